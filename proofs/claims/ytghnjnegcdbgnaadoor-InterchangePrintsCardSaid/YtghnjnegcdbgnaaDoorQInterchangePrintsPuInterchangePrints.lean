import Derived.Test.YtghnjnegcdbgnaaDoorQInterchangePrintsSayInterchangePrints
import Derived.Test.YtghnjnegcdbgnaaDoorQRef
namespace Go.Proofs.YtghnjnegcdbgnaaDoor.Pure
set_option linter.unusedVariables false
set_option linter.unusedSimpArgs false
open Go Go.RowKit P Go.Proofs.YtghnjnegcdbgnaaDoorW.PrintWords Go.Proofs.YtghnjnegcdbgnaaDoorW.PrintLast Go.Proofs.YtghnjnegcdbgnaaDoorW.PrintMore
theorem Prints0 (m : Mk) (hw : wfM m) : Ev (fun k => garmentlaw34_InterchangePrints.f k m.a m.b m.c m.d m.z m.p) true := by
 simp only [garmentlaw34_InterchangePrints.f]
 refine Ev.val (few_f m) ?_
 have fin : Ev (fun k => (garmentlaw34_awake.f k).bind fun t => some t) true := Ev.bind awake_ev (Ev.pure _)
 by_cases hf : m.z.length ≤ 20 ∧ m.p.length ≤ 70
 ·refine Ev.pos (decide_eq_true hf) (Ev.bind (print_ev m hw (by omega) (by omega)) (Ev.bind (rprint_ev m (by omega) (by omega)) ?_))
  exact Ev.pos rfl (Ev.pos rfl fin)
 ·exact Ev.neg (by simpa using hf) fin
theorem InterchangePrints : P.garmentlaw34_InterchangePrints.Pured := fun x h => Ev.some_ (Prints0 (mkOf x) (wf_of h))
end Go.Proofs.YtghnjnegcdbgnaaDoor.Pure
