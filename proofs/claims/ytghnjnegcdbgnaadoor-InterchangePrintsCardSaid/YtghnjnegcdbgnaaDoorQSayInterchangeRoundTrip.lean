/- What is to be shown of what the law's code computes: the law InterchangeRoundTrip. -/
import Derived.Test.YtghnjnegcdbgnaaDoorJ5
import Derived.Test.YtghnjnegcdbgnaaDoorQOpens
namespace Go.Proofs.YtghnjnegcdbgnaaDoor.P
open Go.RowKit Go.Proofs.YtghnjnegcdbgnaaDoorW.PrintWords Go.Proofs.YtghnjnegcdbgnaaDoorW.PrintLast Go.Proofs.YtghnjnegcdbgnaaDoorW.PrintMore
def garmentlaw34_InterchangeRoundTrip.Pured : Prop := ∀ (x0 : S27), wf27 x0 → ∃ k, garmentlaw34_InterchangeRoundTrip.f k x0.f0 x0.f1 x0.f2.f0 x0.f2.f1 x0.f3 x0.f4 = some true
end Go.Proofs.YtghnjnegcdbgnaaDoor.P
