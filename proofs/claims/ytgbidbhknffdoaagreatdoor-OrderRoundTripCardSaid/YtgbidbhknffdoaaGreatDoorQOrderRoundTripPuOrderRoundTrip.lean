import Derived.Test.YtgbidbhknffdoaaGreatDoorQOrderRoundTripSayOrderRoundTrip
import Derived.Test.YtgbidbhknffdoaaGreatDoorQOrderRoundTripBack
namespace Go.Proofs.YtgbidbhknffdoaaGreatDoor.Pure
open Go Go.RowKit P Go.Proofs.YtgbidbhknffdoaaGreatDoorW.PrintWords Go.Proofs.YtgbidbhknffdoaaGreatDoorW.PrintLast Go.Proofs.YtgbidbhknffdoaaGreatDoorW.PrintMore
theorem OrderRoundTrip : P.garmentlaw35_OrderRoundTrip.Pured := by
  intro c s _ hs
  have hs17 : s.length ≤ 1000000000000000 := by have := hs.1; omega
  refine Ev.some_ (f := fun k => garmentlaw35_OrderRoundTrip.f k c s) ?_
  simp only [garmentlaw35_OrderRoundTrip.f]
  have out : ∀ q : Bool, q = true → Ev (fun k => garmentlaw35_OrderRoundTrip.j0 k c s q) true := by
    rintro q rfl
    refine Ev.succ ?_
    simp only [garmentlaw35_OrderRoundTrip.j0]
    exact Ev.pos trivial (Ev.bind example_ev (Ev.pure _))
  by_cases hc : (c.length : Int) > 20
  · exact Ev.pos hc (out _ rfl)
  · refine Ev.neg hc ?_
    obtain ⟨q, h1, h2⟩ := short_ev s hs17
    refine Ev.bind h1 ?_
    cases q with
    | false => exact out _ rfl
    | true =>
      obtain ⟨h3, h4⟩ := h2 rfl
      refine Ev.succ ?_
      simp only [garmentlaw35_OrderRoundTrip.j0]
      refine Ev.neg (by simp) (Ev.bind (print_ev c s (by omega) h3 h4) ?_)
      by_cases he : (printS c s).2 = 0
      · obtain ⟨g1, g2, g3, g4, g5, g6⟩ := print_ok he
        refine Ev.pos he ?_
        rw [g6]
        refine Ev.bind (parse_ev _ s h3) ?_
        rw [round_trip c s g1 g3 g4 g2 g5]
        exact Ev.pos rfl (Ev.bind (same_ev _ _ (by simp only; omega)) (Ev.pos (by simp) (Ev.bind example_ev (Ev.pure _))))
      · refine Ev.neg he (Ev.pos ?_ (Ev.bind example_ev (Ev.pure _)))
        rw [print_err he, ba_toList]
end Go.Proofs.YtgbidbhknffdoaaGreatDoor.Pure
