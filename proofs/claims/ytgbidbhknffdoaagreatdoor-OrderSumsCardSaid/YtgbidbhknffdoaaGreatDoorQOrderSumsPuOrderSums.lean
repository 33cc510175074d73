import Derived.Test.YtgbidbhknffdoaaGreatDoorQOrderSumsSayOrderSums
import Derived.Test.YtgbidbhknffdoaaGreatDoorQNums
namespace Go.Proofs.YtgbidbhknffdoaaGreatDoor.Pure
open Go Go.RowKit P Go.Proofs.YtgbidbhknffdoaaGreatDoorW.PrintWords Go.Proofs.YtgbidbhknffdoaaGreatDoorW.PrintLast Go.Proofs.YtgbidbhknffdoaaGreatDoorW.PrintMore
theorem OrderSums : P.garmentlaw35_OrderSums.Pured := by
  intro a b _ _
  refine Ev.some_ (f := fun k => garmentlaw35_OrderSums.f k a b) ?_
  simp only [garmentlaw35_OrderSums.f]
  have out : ∀ q : Bool, q = true → Ev (fun k => garmentlaw35_OrderSums.j0 k a b q) true := by
    rintro q rfl
    refine Ev.succ ?_
    simp only [garmentlaw35_OrderSums.j0]
    exact Ev.pos trivial (Ev.bind example_ev (Ev.pure _))
  by_cases ha : (a.length : Int) > 30
  · exact Ev.pos ha (out _ rfl)
  · refine Ev.neg ha ?_
    by_cases hb : (b.length : Int) > 30
    · exact out _ (by simpa using hb)
    · refine Ev.succ ?_
      simp only [garmentlaw35_OrderSums.j0]
      refine Ev.neg (by simpa using hb) ?_
      refine Ev.bind (add_ev a b (by omega)) (Ev.bind (radd_ev a b (by omega) (by omega)) (Ev.bind (cmp_ev a b (by omega)) (Ev.bind (rcmp_ev a b (by omega) (by omega)) ?_)))
      refine Ev.pos rfl (Ev.pos rfl ?_)
      have l1 : (addS a b).1.length ≤ 1000000000000 := by
        unfold addS; split <;> (try split) <;> (try split) <;> simp <;> omega
      have l2 : (cmpS a b).1.length ≤ 1000000000000 := by
        unfold cmpS; split <;> (try split) <;> simp [shortS] <;> omega
      have l3 : (cmpS a b).2.1.length ≤ 1000000000000 := by
        unfold cmpS; split <;> (try split) <;> simp [overS] <;> omega
      refine Ev.bind (same_ev _ _ l1) (Ev.pos (by simp) (Ev.bind (same_ev _ _ l2) (Ev.pos (by simp) (Ev.bind (same_ev _ _ l3) (Ev.pos (by simp) ?_)))))
      exact Ev.bind (tot_ev a (by omega)) (Ev.bind (rtot_ev a (by omega)) (Ev.pos rfl (Ev.bind example_ev (Ev.pure _))))
end Go.Proofs.YtgbidbhknffdoaaGreatDoor.Pure
