/- What is to be shown of what the law's code computes: the law InterchangeAgain. -/
import Derived.Test.YtghnjnegcdbgnaaDoorJInterchangeBefore5
import Derived.Test.YtghnjnegcdbgnaaDoorQOpens
namespace Go.Proofs.YtghnjnegcdbgnaaDoor.P
open Go.RowKit Go.Proofs.YtghnjnegcdbgnaaDoorW.PrintWords Go.Proofs.YtghnjnegcdbgnaaDoorW.PrintLast Go.Proofs.YtghnjnegcdbgnaaDoorW.PrintMore
def garmentlaw34_InterchangeAgain.Pured : Prop := ∀ (x0 : ByteArray), wf9 x0 → ∃ k, garmentlaw34_InterchangeAgain.f k x0 = some true
end Go.Proofs.YtghnjnegcdbgnaaDoor.P
