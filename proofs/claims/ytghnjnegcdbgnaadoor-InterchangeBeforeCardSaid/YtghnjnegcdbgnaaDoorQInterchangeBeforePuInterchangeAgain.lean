import Derived.Test.YtghnjnegcdbgnaaDoorQInterchangeBeforeSayInterchangeAgain
import Derived.Test.YtghnjnegcdbgnaaDoorQPuInterchangeRoundTrip
namespace Go.Proofs.YtghnjnegcdbgnaaDoor.Pure
set_option linter.unusedVariables false
set_option linter.unusedSimpArgs false
open Go Go.RowKit P Go.Proofs.YtghnjnegcdbgnaaDoorW.PrintWords Go.Proofs.YtghnjnegcdbgnaaDoorW.PrintLast Go.Proofs.YtghnjnegcdbgnaaDoorW.PrintMore
theorem Again0 (s : List UInt8) : Ev (fun k => garmentlaw34_InterchangeAgain.f k (bs s)) true := by
 simp only [garmentlaw34_InterchangeAgain.f]
 have fin : Ev (fun k => (garmentlaw34_awake.f k).bind fun t => some t) true := Ev.bind awake_ev (Ev.pure _)
 by_cases h25 : s.length > 25000
 ·exact Ev.pos (by rw [bs_size]; omega) fin
 ·refine Ev.neg (by rw [bs_size]; omega) ?_
  by_cases h20 : 20000 < s.length
  ·refine Ev.bind (parse_long s h20) (Ev.neg (by simp [res]) (Ev.bind (same_ev Mk0 (by simp [Mk0]) (by simp [Mk0])) (Ev.pos rfl (Ev.neg (by simp [res]) (Ev.pos rfl (Ev.pos (by rw [bs_size]; omega) (Ev.bind (lines_ev s (by omega)) (Ev.pos ?_ fin))))))))
   show (0 : Int) ≤ mx 2 _
   unfold mx; split <;> omega
  ·obtain ⟨ls, t, rfl, hls, ht⟩ := unl_exists s
   refine Ev.bind (parse_ev ls t hls ht (by omega)) ?_
   rcases hx : goP 1 Mk0 ls t with ⟨m', e, j⟩
   by_cases he : e = 0
   ·subst he
    obtain ⟨rfl, h2, h3, rfl⟩ := goP_ok ls 1 Mk0 m' t j hx
    obtain ⟨hok, rfl⟩ := run_back h3 (by omega)
    have hp := inM_of hok
    refine Ev.pos rfl (Ev.bind (print_ev m' (wfM_ok hok) (by have := hok.2.2.1; omega) (by have := hok.2.2.2.2; omega)) ?_)
    rw [hp]
    exact Ev.pos rfl (Ev.pos (by rfl) (Ev.pos rfl fin))
   ·obtain ⟨rfl, n, m1, h1, rfl, h3, h4, h5⟩ := goP_fail ls 1 Mk0 m' t e j hx he
    refine Ev.neg he (Ev.bind (same_ev Mk0 (by simp [Mk0]) (by simp [Mk0])) (Ev.pos rfl (Ev.pos (by simp only [res]; omega) (Ev.bind (lines_ev _ (by omega)) (Ev.pos ?_ fin)))))
    rw [unl_count ls t hls ht]
    have := unl_length ls t
    show ((1 + n : Nat) : Int) ≤ mx 2 _
    have hw : wrap64 ((ls.length : Int) + 1) = (ls.length : Int) + 1 := by unfold wrap64; omega
    rw [hw]
    unfold mx; split <;> omega
theorem InterchangeAgain : P.garmentlaw34_InterchangeAgain.Pured := fun x _ => by
 have := Ev.some_ (Again0 x.data.toList)
 rw [bs_eta] at this
 exact this
end Go.Proofs.YtghnjnegcdbgnaaDoor.Pure
