import Derived.Test.YtgbidbhknffdoaaGreatDoorQOrderSwapsSayOrderSwaps
import Derived.Test.YtgbidbhknffdoaaGreatDoorQNums
namespace Go.Proofs.YtgbidbhknffdoaaGreatDoor.Pure
open Go Go.RowKit P Go.Proofs.YtgbidbhknffdoaaGreatDoorW.PrintWords Go.Proofs.YtgbidbhknffdoaaGreatDoorW.PrintLast Go.Proofs.YtgbidbhknffdoaaGreatDoorW.PrintMore
theorem short_over (a b : List Int) : shortS a b = overS b a := by
  unfold shortS overS
  rw [List.zipWith_comm]
theorem cmp_swap (a b : List Int) : (cmpS b a) = ((cmpS a b).2.1, (cmpS a b).1, (cmpS a b).2.2) := by
  unfold cmpS
  by_cases hl : a.length = b.length
  · rw [if_pos hl, if_pos hl.symm]
    by_cases h : a.all countB = true ∧ b.all countB = true
    · rw [if_pos h, if_pos ⟨h.2, h.1⟩, short_over b a, short_over a b]
    · rw [if_neg h, if_neg (fun x => h ⟨x.2, x.1⟩)]
  · rw [if_neg hl, if_neg (fun x => hl x.symm)]
theorem OrderSwaps : P.garmentlaw35_OrderSwaps.Pured := by
  intro a b _ _
  refine Ev.some_ (f := fun k => garmentlaw35_OrderSwaps.f k a b) ?_
  simp only [garmentlaw35_OrderSwaps.f]
  have out : ∀ q : Bool, q = true → Ev (fun k => garmentlaw35_OrderSwaps.j0 k a b q) true := by
    rintro q rfl
    refine Ev.succ ?_
    simp only [garmentlaw35_OrderSwaps.j0]
    exact Ev.pos trivial (Ev.bind example_ev (Ev.pure _))
  by_cases ha : (a.length : Int) > 30
  · exact Ev.pos ha (out _ rfl)
  · refine Ev.neg ha ?_
    by_cases hb : (b.length : Int) > 30
    · exact out _ (by simpa using hb)
    · refine Ev.succ ?_
      simp only [garmentlaw35_OrderSwaps.j0]
      refine Ev.neg (by simpa using hb) ?_
      refine Ev.bind (cmp_ev a b (by omega)) (Ev.bind (cmp_ev b a (by omega)) ?_)
      rw [cmp_swap a b]
      have l2 : (cmpS a b).1.length ≤ 1000000000000 := by
        unfold cmpS; split <;> (try split) <;> simp [shortS] <;> omega
      have l3 : (cmpS a b).2.1.length ≤ 1000000000000 := by
        unfold cmpS; split <;> (try split) <;> simp [overS] <;> omega
      exact Ev.pos rfl (Ev.bind (same_ev _ _ l2) (Ev.pos (by simp) (Ev.bind (same_ev _ _ l3) (Ev.pos (by simp) (Ev.bind example_ev (Ev.pure _))))))
end Go.Proofs.YtgbidbhknffdoaaGreatDoor.Pure
