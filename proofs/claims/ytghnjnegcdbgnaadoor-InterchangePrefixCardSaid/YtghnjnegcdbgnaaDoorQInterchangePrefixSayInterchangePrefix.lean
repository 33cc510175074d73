/- What is to be shown of what the law's code computes: the law InterchangePrefix. -/
import Derived.Test.YtghnjnegcdbgnaaDoorJInterchangePrefix5
import Derived.Test.YtghnjnegcdbgnaaDoorQOpens
namespace Go.Proofs.YtghnjnegcdbgnaaDoor.P
open Go.RowKit Go.Proofs.YtghnjnegcdbgnaaDoorW.PrintWords Go.Proofs.YtghnjnegcdbgnaaDoorW.PrintLast Go.Proofs.YtghnjnegcdbgnaaDoorW.PrintMore
def garmentlaw34_InterchangePrefix.Pured : Prop := ∀ (x0 : S27) (x1 : Int), wf27 x0 → wf40 x1 → ∃ k, garmentlaw34_InterchangePrefix.f k x0.f0 x0.f1 x0.f2.f0 x0.f2.f1 x0.f3 x0.f4 x1 = some true
end Go.Proofs.YtghnjnegcdbgnaaDoor.P
