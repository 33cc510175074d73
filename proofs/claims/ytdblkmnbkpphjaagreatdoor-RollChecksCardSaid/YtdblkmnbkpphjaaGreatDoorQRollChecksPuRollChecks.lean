import Derived.Test.YtdblkmnbkpphjaaGreatDoorQRollChecksSayRollChecks
import Derived.Test.YtdblkmnbkpphjaaGreatDoorQChk
namespace Go.Proofs.YtdblkmnbkpphjaaGreatDoor.Pure
set_option linter.unusedVariables false
set_option linter.unusedSimpArgs false
open Go Go.RowKit P Go.Proofs.YtdblkmnbkpphjaaGreatDoorW.PrintWords Go.Proofs.YtdblkmnbkpphjaaGreatDoorW.PrintLast Go.Proofs.YtdblkmnbkpphjaaGreatDoorW.PrintMore
theorem few1_ev (q : S26) : ∃ b, Ev (fun k => garmentref27_Few.f k [q]) b := by
 have h1 : Ev (fun k => garmentref27_Few.l0 k [q] 1) true := by
  refine Ev.step (h := fun k => garmentref27_Few.j1 k [q] 1 false) (Ev.step (h := fun _ => some true) (Ev.pure _) fun k => ?_) fun k => ?_
  ·simp only [garmentref27_Few.j1]; rw [if_neg (by decide)]; rfl
  ·simp only [garmentref27_Few.l0]; rw [if_neg (by simp)]
 have h2 : ∀ b, Ev (fun k => garmentref27_Few.j2 k [q] 0 b) (!b) := by
  intro b
  cases b with
  | true => exact Ev.step (h := fun _ => some false) (Ev.pure _) fun k => by simp only [garmentref27_Few.j2]; rfl
  | false => exact Ev.step (h := fun k => garmentref27_Few.l0 k [q] 1) h1 fun k => by simp only [garmentref27_Few.j2]; rw [if_neg (by decide), show wrap64 (0 + 1) = 1 from by unfold wrap64; omega]
 have h3 : ∃ b, Ev (fun k => garmentref27_Few.j1 k [q] 0 true) b := by
  by_cases h : (((rd_T26 [q] 0).f4).length : Int) > 30
  ·refine ⟨_, Ev.step (h := fun k => garmentref27_Few.j2 k [q] 0 true) (h2 true) fun k => ?_⟩
   simp only [garmentref27_Few.j1]
   rw [if_pos trivial, if_pos (by decide), if_pos (by simp), if_pos h]
  ·refine ⟨_, Ev.step (h := fun k => garmentref27_Few.j2 k [q] 0 (decide ((((rd_T26 [q] 0).f0).size : Int) > 100))) (h2 _) fun k => ?_⟩
   simp only [garmentref27_Few.j1]
   rw [if_pos trivial, if_pos (by decide), if_pos (by simp), if_neg h]
 obtain ⟨b, hb⟩ := h3
 refine ⟨b, Ev.step (h := fun k => garmentref27_Few.j1 k [q] 0 true) hb fun k => ?_⟩
 show garmentref27_Few.l0 (k + 1) [q] 0 = _
 simp only [garmentref27_Few.l0]
 rw [if_pos (by simp)]
 rfl
theorem RollChecks : P.garmentlaw27_RollChecks.Pured := by
 intro x hx
 refine Ev.some_ (f := fun k => garmentlaw27_RollChecks.f k x.f0 x.f1 x.f2 x.f3.f0 x.f3.f1 x.f3.f2 x.f4) ?_
 simp only [garmentlaw27_RollChecks.f]
 obtain ⟨b, hb⟩ := few1_ev ⟨x.f0, x.f1, x.f2, ⟨x.f3.f0, x.f3.f1, x.f3.f2⟩, x.f4⟩
 have hf : Ev (fun k => garmentlaw27_few.f k x.f0 x.f1 x.f2 x.f3.f0 x.f3.f1 x.f3.f2 x.f4) b := by
  unfold garmentlaw27_few.f
  exact Ev.bind hb (Ev.pure _)
 have he : garmentlaw27_exampleHolds.f = some true := rfl
 refine Ev.bind hf ?_
 rw [he]
 cases b with
 | false => exact Ev.pure _
 | true =>
  refine Ev.pos rfl (Ev.bind (check_ev _ _ _ _ _ _ _) (Ev.bind (rcheck_ev _ _ _ _ _ _ _) (Ev.pos rfl ?_)))
  exact Ev.pure _
end Go.Proofs.YtdblkmnbkpphjaaGreatDoor.Pure
