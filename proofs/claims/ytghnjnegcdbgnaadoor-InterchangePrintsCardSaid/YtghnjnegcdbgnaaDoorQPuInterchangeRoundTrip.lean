import Derived.Test.YtghnjnegcdbgnaaDoorQSayInterchangeRoundTrip
import Derived.Test.YtghnjnegcdbgnaaDoorQParse
namespace Go.Proofs.YtghnjnegcdbgnaaDoor.Pure
set_option linter.unusedVariables false
set_option linter.unusedSimpArgs false
open Go Go.RowKit P Go.Proofs.YtghnjnegcdbgnaaDoorW.PrintWords Go.Proofs.YtghnjnegcdbgnaaDoorW.PrintLast Go.Proofs.YtghnjnegcdbgnaaDoorW.PrintMore
theorem in64_wf {n : Int} (h : (Lit.int .i64 n).wf = true) : in64 n = true := by
 simp [Lit.wf, IntKind.min, IntKind.max, IntKind.bits, IntKind.signed] at h
 unfold in64
 simp; omega
def mkOf (x : S27) : Mk := ⟨x.f0, x.f1, x.f2.f0, x.f2.f1, x.f3, x.f4⟩
theorem wf_of {x : S27} (h : wf27 x) : wfM (mkOf x) := by
 obtain ⟨h0, h1, ⟨h2, h3⟩, ⟨_, _, h4⟩, ⟨_, _, h5⟩⟩ := h
 refine ⟨?_, fun n hn => in64_wf (h4 n hn), ?_⟩
 ·intro n hn
  simp only [List.mem_cons, List.not_mem_nil, or_false] at hn
  rcases hn with rfl | rfl | rfl | rfl
  ·exact in64_wf h0
  ·exact in64_wf h1
  ·exact in64_wf h2
  ·exact in64_wf h3
 ·intro p hp n hn
  obtain ⟨a0, a1, a2, ⟨_, a3⟩, ⟨a4, a5⟩⟩ := h5 p hp
  unfold numsP at hn
  simp only [List.mem_cons, List.not_mem_nil, or_false] at hn
  rcases hn with rfl | rfl | rfl | rfl | rfl | rfl
  ·exact in64_wf a0
  ·exact in64_wf a1
  ·exact in64_wf a2
  ·exact in64_wf a3
  ·exact in64_wf a4
  ·exact in64_wf a5
theorem few_f (m : Mk) : garmentlaw34_few.f m.a m.b m.c m.d m.z m.p = some (decide (m.z.length ≤ 20 ∧ m.p.length ≤ 70)) := by
 unfold garmentlaw34_few.f
 by_cases h : m.z.length ≤ 20
 ·rw [if_pos (by omega)]
  congr 1
  rw [Bool.eq_iff_iff]; simp; omega
 ·rw [if_neg (by omega)]
  congr 1
  rw [Bool.eq_iff_iff]; simp; omega
theorem okM_of {m : Mk} (h : inM m = true) (h1 : m.z.length ≤ 6) (h2 : m.p.length ≤ 60) : okM m := by
 unfold inM at h
 simp only [Bool.and_eq_true] at h
 exact ⟨h.1.1, h.1.2, h1, fun p hp => List.all_eq_true.1 h.2 p hp, h2⟩
theorem inM_of {m : Mk} (h : okM m) : printM m = (textM m, 0) := by
 obtain ⟨h1, h2, h3, h4, h5⟩ := h
 unfold printM inM
 rw [if_neg (by omega), h1, h2, List.all_eq_true.2 h4]; rfl
theorem printM_ok {m : Mk} (h : (printM m).2 = 0) : okM m ∧ (printM m).1 = textM m := by
 unfold printM at h ⊢
 split at h
 ·cases h
 ·rename_i h1
  split at h
  ·rename_i h2
   rw [if_neg h1, if_pos h2]
   exact ⟨okM_of h2 (by omega) (by omega), rfl⟩
  ·cases h
theorem parse_text {m : Mk} (h : okM m) : Ev (fun k => interchange_Parse.f k (bs (textM m))) (res (m, 0, 0)) := by
 have := textM_size m h
 refine Ev.cast (parse_ev (linesM m) [] (lines_10 h) (by simp) (by unfold textM at this; omega)) ?_
 have e := goP_run (linesM m) 1 Mk0 m [] [] (run_ok h)
 rw [List.append_nil] at e
 have hl : 2 ≤ (linesM m).length := by unfold linesM; simp
 rw [e, goP, if_pos rfl, if_neg (by omega)]
theorem RoundTrip0 (m : Mk) (hw : wfM m) : Ev (fun k => garmentlaw34_InterchangeRoundTrip.f k m.a m.b m.c m.d m.z m.p) true := by
 simp only [garmentlaw34_InterchangeRoundTrip.f]
 refine Ev.val (few_f m) ?_
 have fin : Ev (fun k => (garmentlaw34_awake.f k).bind fun t => some t) true := Ev.bind awake_ev (Ev.pure _)
 by_cases hf : m.z.length ≤ 20 ∧ m.p.length ≤ 70
 ·refine Ev.pos (decide_eq_true hf) (Ev.bind (print_ev m hw (by omega) (by omega)) ?_)
  by_cases h0 : (printM m).2 = 0
  ·obtain ⟨hok, ht⟩ := printM_ok h0
   refine Ev.pos h0 ?_
   rw [ht]
   refine Ev.bind (parse_text hok) (Ev.pos rfl (Ev.pos rfl (Ev.bind (same_ev m (by omega) (by omega)) (Ev.pos rfl (Ev.bind (lines_ev (textM m) (by have := textM_size m hok; omega)) (Ev.pos ?_ fin))))))
   have e : (textM m).count 10 = 2 + m.p.length := by
    unfold textM
    rw [unl_count _ _ (lines_10 hok) (by simp)]
    unfold linesM
    simp; omega
   rw [e]
   unfold wrap64; omega
  ·refine Ev.neg h0 ?_
   have h1 : (printM m).1 = [] ∧ ((printM m).2 = 5 ↔ 6 < m.z.length ∨ 60 < m.p.length) := by
    unfold printM at h0 ⊢
    split
    ·rename_i h; exact ⟨rfl, by simp [h]⟩
    ·rename_i h
     split
     ·rename_i h2; rw [if_neg h, if_pos h2] at h0; exact absurd rfl h0
     ·exact ⟨rfl, by simp [h]⟩
   rw [h1.1]
   by_cases h6 : (m.z.length : Int) > 6
   ·refine Ev.pos h6 (Ev.pos (bs_toList []) (Ev.pos ?_ fin))
    have := h1.2.2 (.inl (by omega))
    rw [this]; rfl
   ·refine Ev.neg h6 (Ev.pos (bs_toList []) (Ev.pos ?_ fin))
    by_cases h60 : 60 < m.p.length
    ·have := h1.2.2 (.inr h60)
     rw [this, decide_eq_true (by omega)]; rfl
    ·have : (printM m).2 ≠ 5 := fun h => by have := h1.2.1 h; omega
     rw [show ((printM m).2 == 5) = false from by simpa using this, decide_eq_false (by omega)]; rfl
 ·exact Ev.neg (by simpa using hf) fin
theorem InterchangeRoundTrip : P.garmentlaw34_InterchangeRoundTrip.Pured := fun x h => Ev.some_ (RoundTrip0 (mkOf x) (wf_of h))
end Go.Proofs.YtghnjnegcdbgnaaDoor.Pure
