import Derived.Test.YtghnjnegcdbgnaaDoorQInterchangeBeforeSayInterchangeBefore
import Derived.Test.YtghnjnegcdbgnaaDoorQInterchangeBeforePuInterchangeAgain
namespace Go.Proofs.YtghnjnegcdbgnaaDoor.Pure
set_option linter.unusedVariables false
set_option linter.unusedSimpArgs false
open Go Go.RowKit P Go.Proofs.YtghnjnegcdbgnaaDoorW.PrintWords Go.Proofs.YtghnjnegcdbgnaaDoorW.PrintLast Go.Proofs.YtghnjnegcdbgnaaDoorW.PrintMore
theorem Before0 (s more : List UInt8) : Ev (fun k => garmentlaw34_InterchangeBefore.f k (bs s) (bs more)) true := by
 simp only [garmentlaw34_InterchangeBefore.f]
 have fin : Ev (fun k => (garmentlaw34_awake.f k).bind fun t => some t) true := Ev.bind awake_ev (Ev.pure _)
 have out : ∀ q : Bool, q = true → Ev (fun k => garmentlaw34_InterchangeBefore.j0 k (bs s) (bs more) q) true := by
  rintro q rfl
  refine Ev.succ ?_
  simp only [garmentlaw34_InterchangeBefore.j0]
  exact Ev.pos trivial fin
 by_cases h1 : s.length > 10000
 ·exact Ev.pos (by rw [bs_size]; omega) (out _ rfl)
 ·refine Ev.neg (by rw [bs_size]; omega) ?_
  by_cases h2 : more.length > 10000
  ·exact out _ (by rw [bs_size]; simp; omega)
  ·refine Ev.succ ?_
   simp only [garmentlaw34_InterchangeBefore.j0]
   refine Ev.neg (by rw [bs_size]; simp; omega) ?_
   obtain ⟨ls, t, rfl, hls, ht⟩ := unl_exists s
   have hlen := unl_length ls t
   refine Ev.bind (parse_ev ls t hls ht (by omega)) ?_
   rcases hx : goP 1 Mk0 ls t with ⟨m', e, j⟩
   by_cases he : e = 0
   ·subst he
    obtain ⟨rfl, h3, h4, rfl⟩ := goP_ok ls 1 Mk0 m' t j hx
    exact Ev.pos rfl (Ev.pos rfl fin)
   ·obtain ⟨rfl, n, m1, n1, rfl, n3, n4, n5⟩ := goP_fail ls 1 Mk0 m' t e j hx he
    refine Ev.neg he ?_
    have last : Ev (fun k => garmentlaw34_InterchangeBefore.j2 k (bs (unl ls t)) (bs more) e ((1 + n : Nat) : Int)) true := by
     refine Ev.succ ?_
     simp only [garmentlaw34_InterchangeBefore.j2]
     refine Ev.bind (lines_ev _ (by omega)) ?_
     rw [unl_count ls t hls ht]
     by_cases hn : n = ls.length
     ·refine Ev.pos (by omega) ?_
      rcases n4 hn with ⟨_, _, rfl⟩ | ⟨_, rfl⟩
      ·exact Ev.neg (by simp) (Ev.pos rfl fin)
      ·exact Ev.pos rfl fin
     ·have hlt : n < ls.length := by omega
      refine Ev.neg (by omega) (Ev.bind (front_ev ls t (1 + n) hls (by omega) (by omega)) (Ev.pos ?_ ?_))
      ·have hcut : (unl (ls.take (1 + n)) []).length ≤ (unl ls t).length := by
        conv => rhs; rw [← List.take_append_drop (1 + n) ls, unl_append]
        unfold unl; simp
       rw [bs_size, bs_size]; omega
      ·have hcut : (unl (ls.take (1 + n)) []).length ≤ (unl ls t).length := by
        conv => rhs; rw [← List.take_append_drop (1 + n) ls, unl_append]
        unfold unl; simp
       obtain ⟨ls2, t2, rfl, hls2, ht2⟩ := unl_exists more
       rw [bs_append]
       have eu : unl (ls.take (1 + n)) [] ++ unl ls2 t2 = unl (ls.take (1 + n) ++ ls2) t2 := by
        rw [unl_append]; unfold unl; simp
       rw [eu]
       have hu : (unl (ls.take (1 + n) ++ ls2) t2).length ≤ 20000 := by rw [← eu, List.length_append]; omega
       refine Ev.bind (parse_ev _ t2 (fun l hl => by
        rcases List.mem_append.1 hl with hl | hl
        ·exact hls l (List.mem_of_mem_take hl)
        ·exact hls2 l hl) ht2 hu) ?_
       have eg : goP 1 Mk0 (ls.take (1 + n) ++ ls2) t2 = (Mk0, e, ((1 + n : Nat) : Int)) := by
        rw [show 1 + n = n + 1 from by omega, List.take_succ_eq_append_getElem hlt, List.append_assoc, goP_run (ls.take n) 1 Mk0 m1 _ t2 n3]
        have hl : (ls.take n).length = n := by rw [List.length_take]; omega
        have h5 := n5 hlt
        rw [hl, List.cons_append, goP, h5, if_neg he]
        congr 2
        omega
       rw [eg]
       exact Ev.pos rfl (Ev.pos rfl fin)
    by_cases h3 : ((1 + n : Nat) : Int) > 2
    ·refine Ev.pos h3 ?_
     have ew : wrap64 (((1 + n : Nat) : Int) - 1) = ((n : Nat) : Int) := by unfold wrap64; omega
     have ew3 : wrap64 (((1 + n : Nat) : Int) - 3) = ((n - 2 : Nat) : Int) := by unfold wrap64; omega
     have hcut : (unl (ls.take n) []).length ≤ (unl ls t).length := by
      conv => rhs; rw [← List.take_append_drop n ls, unl_append]
      unfold unl; simp
     simp only [res]
     rw [ew]
     refine Ev.bind (front_ev ls t n hls n1 (by omega)) (Ev.bind (parse_ev (ls.take n) [] (fun l hl => hls l (List.mem_of_mem_take hl)) (by simp) (by omega)) ?_)
     have hl : (ls.take n).length = n := by rw [List.length_take]; omega
     have eg : goP 1 Mk0 (ls.take n) [] = (m1, 0, 0) := by
      have := goP_run (ls.take n) 1 Mk0 m1 [] [] n3
      rw [List.append_nil] at this
      rw [this, hl, goP, if_pos rfl, if_neg (by omega)]
     obtain ⟨hok, hlm⟩ := run_back n3 (by omega)
     have hpl : m1.p.length = n - 2 := by
      have := congrArg List.length hlm
      rw [hl] at this
      unfold linesM at this
      simp at this
      omega
     rw [eg]
     refine Ev.pos rfl (Ev.pos rfl ?_)
     have nx : ∀ q : Bool, q = false → Ev (fun k => garmentlaw34_InterchangeBefore.j1 k (bs (unl ls t)) (bs more) e ((1 + n : Nat) : Int) q) true := by
      rintro q rfl
      refine Ev.succ ?_
      simp only [garmentlaw34_InterchangeBefore.j1]
      exact Ev.neg (by simp) last
     refine nx _ ?_
     rw [ew3]
     simp [res, hpl]
    ·exact Ev.neg h3 last
theorem InterchangeBefore : P.garmentlaw34_InterchangeBefore.Pured := fun x y _ _ => by
 have := Ev.some_ (Before0 x.data.toList y.data.toList)
 rw [bs_eta, bs_eta] at this
 exact this
end Go.Proofs.YtghnjnegcdbgnaaDoor.Pure
