import Derived.Test.YtgbidbhknffdoaaGreatDoorQOrderTextsSayOrderTexts
import Derived.Test.YtgbidbhknffdoaaGreatDoorQOrderTextsBack
namespace Go.Proofs.YtgbidbhknffdoaaGreatDoor.Pure
open Go Go.RowKit P Go.Proofs.YtgbidbhknffdoaaGreatDoorW.PrintWords Go.Proofs.YtgbidbhknffdoaaGreatDoorW.PrintLast Go.Proofs.YtgbidbhknffdoaaGreatDoorW.PrintMore
theorem OrderTexts : P.garmentlaw35_OrderTexts.Pured := by
  intro t s _ hs
  have hs17 : s.length ≤ 1000000000000000 := by have := hs.1; omega
  refine Ev.some_ (f := fun k => garmentlaw35_OrderTexts.f k t s) ?_
  simp only [garmentlaw35_OrderTexts.f]
  have out : ∀ q : Bool, q = true → Ev (fun k => garmentlaw35_OrderTexts.j0 k t s q) true := by
    rintro q rfl
    refine Ev.succ ?_
    simp only [garmentlaw35_OrderTexts.j0]
    exact Ev.pos trivial (Ev.bind example_ev (Ev.pure _))
  by_cases hc : (t.size : Int) > 500
  · exact Ev.pos hc (out _ rfl)
  · refine Ev.neg hc ?_
    obtain ⟨q, h1, h2⟩ := short_ev s hs17
    refine Ev.bind h1 ?_
    cases q with
    | false => exact out _ rfl
    | true =>
      obtain ⟨h3, h4⟩ := h2 rfl
      refine Ev.succ ?_
      simp only [garmentlaw35_OrderTexts.j0]
      refine Ev.neg (by simp) (Ev.pos (by omega) (Ev.pos (by simp; omega) (Ev.bind (print_ev _ s (by simp; omega) h3 h4) ?_)))
      by_cases he : (printS (List.replicate ((s.length : Int)).toNat 0) s).2 = 0
      · obtain ⟨_, g2, g3, _, g5, _⟩ := print_ok he
        refine Ev.pos he (Ev.bind (parse_ev t s h3) ?_)
        by_cases hp : (parseS t s).2 = 0
        · have e : parseS t s = ((parseS t s).1, 0) := by rw [← hp]
          obtain ⟨b1, b2, b3⟩ := texts_back t s _ e
          refine Ev.pos hp (Ev.bind (print_ev _ s (by omega) h3 h4) ?_)
          rw [print_is b1 g2 g3 b2 g5]
          exact Ev.pos rfl (Ev.pos (by rw [b3]) (Ev.bind example_ev (Ev.pure _)))
        · refine Ev.neg hp (Ev.pos ?_ (Ev.bind example_ev (Ev.pure _)))
          rw [parseS_err hp]; rfl
      · exact Ev.neg he (Ev.bind example_ev (Ev.pure _))
end Go.Proofs.YtgbidbhknffdoaaGreatDoor.Pure
