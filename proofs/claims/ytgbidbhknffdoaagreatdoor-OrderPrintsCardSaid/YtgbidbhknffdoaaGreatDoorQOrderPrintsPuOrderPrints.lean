import Derived.Test.YtgbidbhknffdoaaGreatDoorQOrderPrintsSayOrderPrints
import Derived.Test.YtgbidbhknffdoaaGreatDoorQOrderPrintsPrint
namespace Go.Proofs.YtgbidbhknffdoaaGreatDoor.Pure
open Go Go.RowKit P Go.Proofs.YtgbidbhknffdoaaGreatDoorW.PrintWords Go.Proofs.YtgbidbhknffdoaaGreatDoorW.PrintLast Go.Proofs.YtgbidbhknffdoaaGreatDoorW.PrintMore
theorem OrderPrints : P.garmentlaw35_OrderPrints.Pured := by
  intro c s _ hs
  have hs17 : s.length ≤ 1000000000000000 := by have := hs.1; omega
  refine Ev.some_ (f := fun k => garmentlaw35_OrderPrints.f k c s) ?_
  simp only [garmentlaw35_OrderPrints.f]
  have out : ∀ q : Bool, q = true → Ev (fun k => garmentlaw35_OrderPrints.j0 k c s q) true := by
    rintro q rfl
    refine Ev.succ ?_
    simp only [garmentlaw35_OrderPrints.j0]
    exact Ev.pos trivial (Ev.bind example_ev (Ev.pure _))
  by_cases hc : (c.length : Int) > 20
  · exact Ev.pos hc (out _ rfl)
  · refine Ev.neg hc ?_
    obtain ⟨q, h1, h2⟩ := short_ev s hs17
    refine Ev.bind h1 ?_
    cases q with
    | false => exact out _ rfl
    | true =>
      obtain ⟨h3, h4⟩ := h2 rfl
      refine Ev.succ ?_
      simp only [garmentlaw35_OrderPrints.j0]
      refine Ev.neg (by simp) (Ev.bind (print_ev c s (by omega) h3 h4) (Ev.bind (rprint_ev c s (by omega) h3 h4) ?_))
      exact Ev.pos rfl (Ev.pos rfl (Ev.bind example_ev (Ev.pure _)))
end Go.Proofs.YtgbidbhknffdoaaGreatDoor.Pure
