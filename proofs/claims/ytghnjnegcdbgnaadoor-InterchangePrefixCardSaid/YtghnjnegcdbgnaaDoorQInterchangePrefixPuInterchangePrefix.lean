import Derived.Test.YtghnjnegcdbgnaaDoorQInterchangePrefixSayInterchangePrefix
import Derived.Test.YtghnjnegcdbgnaaDoorQPuInterchangeRoundTrip
namespace Go.Proofs.YtghnjnegcdbgnaaDoor.Pure
set_option linter.unusedVariables false
set_option linter.unusedSimpArgs false
open Go Go.RowKit P Go.Proofs.YtghnjnegcdbgnaaDoorW.PrintWords Go.Proofs.YtghnjnegcdbgnaaDoorW.PrintLast Go.Proofs.YtghnjnegcdbgnaaDoorW.PrintMore
theorem prefix_run {m : Mk} (h : okM m) (j : Nat) (h2 : 2 ≤ j) (hj : j ≤ (linesM m).length) : runS 1 Mk0 ((linesM m).take j) = some ⟨m.a, m.b, m.c, m.d, m.z, m.p.take (j - 2)⟩ := by
 obtain ⟨h1, h2', h3, h4, h5⟩ := h
 have hok : okM ⟨m.a, m.b, m.c, m.d, m.z, m.p.take (j - 2)⟩ := ⟨h1, h2', h3, fun p hp => h4 p (List.mem_of_mem_take hp), by simp only [List.length_take]; omega⟩
 rw [← run_ok hok]
 congr 1
 obtain ⟨i, rfl⟩ : ∃ i, j = i + 2 := ⟨j - 2, by omega⟩
 unfold linesM
 simp only [List.take_succ_cons, Nat.add_sub_cancel, List.map_take]
theorem run_one {m : Mk} (h : okM m) : runS 1 Mk0 ((linesM m).take 1) = some ⟨m.a, m.b, m.c, m.d, [], []⟩ := by
 have e1 : stepS 1 Mk0 (splitL [32] (headLine m.a m.b m.c m.d)) = (⟨m.a, m.b, m.c, m.d, [], []⟩, 0) := head_ok Mk0 h.1
 unfold linesM
 rw [List.take_succ_cons, List.take_zero, runS, e1, if_pos rfl]; rfl
theorem Prefix0 (m : Mk) (hw : wfM m) (a : Nat) (ha : a ≤ 65535) : Ev (fun k => garmentlaw34_InterchangePrefix.f k m.a m.b m.c m.d m.z m.p (a : Int)) true := by
 simp only [garmentlaw34_InterchangePrefix.f]
 refine Ev.val (few_f m) ?_
 have fin : Ev (fun k => (garmentlaw34_awake.f k).bind fun t => some t) true := Ev.bind awake_ev (Ev.pure _)
 by_cases hf : m.z.length ≤ 20 ∧ m.p.length ≤ 70
 ·refine Ev.pos (decide_eq_true hf) (Ev.bind (print_ev m hw (by omega) (by omega)) ?_)
  have out : ∀ q : Bool, q = true → (printM m).2 = 0 ∨ (printM m).1 = [] → Ev (fun k => garmentlaw34_InterchangePrefix.j0 k (a : Int) (bs (printM m).1) (printM m).2 q m.a m.b m.c m.d m.z m.p) true := by
   rintro q rfl h
   refine Ev.succ ?_
   simp only [garmentlaw34_InterchangePrefix.j0]
   refine Ev.pos trivial ?_
   by_cases h0 : (printM m).2 = 0
   ·exact Ev.pos h0 fin
   ·exact Ev.neg h0 (Ev.pos (by rw [bs_toList]; exact h.resolve_left h0) fin)
  by_cases h0 : (printM m).2 = 0
  ·refine Ev.pos h0 ?_
   obtain ⟨hok, ht⟩ := printM_ok h0
   by_cases hlong : (textM m).length < a
   ·exact out _ (by rw [ht, bs_size]; simp; omega) (.inl h0)
   ·have hsz := textM_size m hok
    refine Ev.succ ?_
    simp only [garmentlaw34_InterchangePrefix.j0]
    rw [ht]
    refine Ev.neg (by rw [bs_size]; simp; omega) (Ev.pos (by omega) (Ev.pos (by rw [bs_size]; omega) ?_))
    rw [bs_extract, List.drop_zero, Int.toNat_natCast]
    obtain ⟨j, t, e1, hj, hj1, hj2⟩ := take_unl (linesM m) a (by unfold textM at hlong; omega)
    have et : (textM m).take a = unl ((linesM m).take j) t := e1
    rw [et]
    have h10 : ∀ l ∈ (linesM m).take j, (10 : UInt8) ∉ l := fun l hl => lines_10 hok l (List.mem_of_mem_take hl)
    have ht10 : (10 : UInt8) ∉ t := by
     by_cases hjl : j = (linesM m).length
     ·rw [hj1 hjl]; simp
     ·obtain ⟨r, hr⟩ := hj2 (by omega)
      rw [hr]
      exact fun hm => lines_10 hok _ (List.getElem_mem (by omega)) (List.mem_of_mem_take hm)
    have hul : (unl ((linesM m).take j) t).length ≤ 10000 := by rw [← et, List.length_take]; omega
    have hjlen : ((linesM m).take j).length = j := by rw [List.length_take]; omega
    have hcnt : (unl ((linesM m).take j) t).count 10 = j := by rw [unl_count _ _ h10 ht10, hjlen]
    have hjb : j ≤ 62 := by
     have : (linesM m).length = m.p.length + 2 := by unfold linesM; simp
     have := hok.2.2.2.2
     omega
    refine Ev.bind (parse_ev _ t h10 ht10 (by omega)) (Ev.bind (lines_ev _ (by omega)) ?_)
    rw [hcnt]
    -- what the run says
    have hgo : goP 1 Mk0 ((linesM m).take j) t = if t = [] then if j < 2 then (Mk0, 4, ((1 + j : Nat) : Int)) else (⟨m.a, m.b, m.c, m.d, m.z, m.p.take (j - 2)⟩, 0, 0) else (Mk0, 2, ((1 + j : Nat) : Int)) := by
     have gen : ∀ m1, runS 1 Mk0 ((linesM m).take j) = some m1 → goP 1 Mk0 ((linesM m).take j) t = goP (1 + j) m1 [] t := fun m1 hr => by
      have := goP_run ((linesM m).take j) 1 Mk0 m1 [] t hr
      rw [List.append_nil, hjlen] at this
      exact this
     by_cases hj0 : j < 2
     ·have : ∃ m1, runS 1 Mk0 ((linesM m).take j) = some m1 := by
       rcases (show j = 0 ∨ j = 1 by omega) with rfl | rfl
       ·exact ⟨Mk0, rfl⟩
       ·exact ⟨_, run_one hok⟩
      obtain ⟨m1, hm1⟩ := this
      rw [gen m1 hm1, goP]
      by_cases h0 : t = []
      ·rw [if_pos h0, if_pos h0, if_pos (by omega), if_pos hj0]
      ·rw [if_neg h0, if_neg h0]
     ·rw [gen _ (prefix_run hok j (by omega) hj), goP]
      by_cases h0 : t = []
      ·rw [if_pos h0, if_pos h0, if_neg (by omega), if_neg hj0]
      ·rw [if_neg h0, if_neg h0]
    rw [hgo]
    have ew : wrap64 ((j : Int) + 1) = ((1 + j : Nat) : Int) := by unfold wrap64; omega
    by_cases h0 : t = []
    ·rw [if_pos h0]
     subst h0
     have nx : ∀ (x : Mk × Int × Int) (q : Bool), q = false → x = (if j < 2 then (Mk0, 4, ((1 + j : Nat) : Int)) else (⟨m.a, m.b, m.c, m.d, m.z, m.p.take (j - 2)⟩, 0, 0)) → Ev (fun k => garmentlaw34_InterchangePrefix.j1 k (res x).2.2.2.2.2.2.1 (res x).2.2.2.2.2.2.2 (j : Int) q m.a m.b m.c m.d m.z m.p (res x).1 (res x).2.1 (res x).2.2.1 (res x).2.2.2.1 (res x).2.2.2.2.1 (res x).2.2.2.2.2.1) true := by
      rintro x q rfl hx
      refine Ev.succ ?_
      simp only [garmentlaw34_InterchangePrefix.j1]
      refine Ev.neg (by simp) ?_
      by_cases hj0 : j < 2
      ·rw [if_pos hj0] at hx
       subst hx
       exact Ev.pos (by omega) (Ev.pos rfl (Ev.pos (by rw [ew]; rfl) fin))
      ·rw [if_neg hj0] at hx
       subst hx
       have ew2 : wrap64 ((j : Int) - 2) = ((j - 2 : Nat) : Int) := by unfold wrap64; omega
       have hll : (linesM m).length = m.p.length + 2 := by unfold linesM; simp
       rw [ew2]
       refine Ev.neg (by omega) (Ev.neg (by omega) (Ev.pos (by omega) (Ev.pos (by omega) (Ev.pos rfl (Ev.pos rfl (Ev.bind ?_ (Ev.pos rfl fin)))))))
       have := same_ev ⟨m.a, m.b, m.c, m.d, m.z, m.p.take (j - 2)⟩ (by simp only; omega) (by simp only [List.length_take]; omega)
       exact this
     have last : ∀ h : 0 < (unl ((linesM m).take j) []).length, (unl ((linesM m).take j) [])[(unl ((linesM m).take j) []).length - 1]'(by omega) = 10 := by
      intro h
      have hne : (linesM m).take j ≠ [] := fun e => by rw [e] at h; simp [unl_nil] at h
      obtain ⟨l', x, hx⟩ : ∃ l' x, (linesM m).take j = l' ++ [x] := ⟨_, _, (List.dropLast_concat_getLast hne).symm⟩
      have eu : unl ((linesM m).take j) [] = (unl l' [] ++ x) ++ [10] := by rw [hx]; unfold unl; simp
      simp [eu]
     by_cases hn : unl ((linesM m).take j) [] = []
     ·exact Ev.pos (by rw [bs_toList]; exact hn) (nx _ _ rfl rfl)
     ·have hp : 0 < (unl ((linesM m).take j) []).length := List.length_pos_iff.2 hn
      have ew3 : wrap64 (((unl ((linesM m).take j) []).length : Int) - 1) = (((unl ((linesM m).take j) []).length - 1 : Nat) : Int) := by unfold wrap64; omega
      refine Ev.neg (by rw [bs_toList]; exact hn) ?_
      rw [bs_size, ew3]
      refine Ev.pos (by omega) (Ev.pos (by omega) (nx _ _ ?_ rfl))
      rw [bs_get _ _ (by omega), last hp]; rfl
    ·rw [if_neg h0]
     have hp : 0 < t.length := List.length_pos_iff.2 h0
     have htl := unl_tail ((linesM m).take j) t
     have hn : unl ((linesM m).take j) t ≠ [] := fun e => by rw [e] at htl; simp at htl; exact h0 htl
     have ew3 : wrap64 (((unl ((linesM m).take j) t).length : Int) - 1) = (((unl ((linesM m).take j) t).length - 1 : Nat) : Int) := by unfold wrap64; omega
     refine Ev.neg (by rw [bs_toList]; exact hn) ?_
     rw [bs_size, ew3]
     refine Ev.pos (by omega) (Ev.pos (by omega) ?_)
     have hlast : (unl ((linesM m).take j) t)[(unl ((linesM m).take j) t).length - 1]'(by omega) ∈ t := by
      have e : (unl ((linesM m).take j) t)[(unl ((linesM m).take j) t).length - 1]'(by omega) = t[t.length - 1]'(by omega) := by
       have hl : (unl ((linesM m).take j) t).length = ((linesM m).take j |>.flatMap fun l => l ++ [10]).length + t.length := by unfold unl; simp
       simp only [unl]
       rw [List.getElem_append_right (by simp; omega)]
       congr 1
       simp; omega
      rw [e]; exact List.getElem_mem _
     have hq : ∀ q : Bool, q = true → Ev (fun k => garmentlaw34_InterchangePrefix.j1 k 2 ((1 + j : Nat) : Int) (j : Int) q m.a m.b m.c m.d m.z m.p 0 0 0 0 [] []) true := by
      rintro q rfl
      refine Ev.succ ?_
      simp only [garmentlaw34_InterchangePrefix.j1]
      exact Ev.pos trivial (Ev.pos trivial (Ev.pos (by rw [ew]) fin))
     refine hq _ ?_
     rw [bs_get _ _ (by omega)]
     simp only [bne_iff_ne, ne_eq]
     intro h
     apply ht10
     have : (unl ((linesM m).take j) t)[(unl ((linesM m).take j) t).length - 1]'(by omega) = 10 := u8_ext (by have h4 : (10 : UInt8).toNat = 10 := rfl; omega)
     rw [← this]; exact hlast
  ·refine Ev.neg h0 (out _ rfl (.inr ?_))
   unfold printM at h0 ⊢
   split
   ·rfl
   ·rename_i h
    split
    ·rename_i h2; rw [if_neg h, if_pos h2] at h0; exact absurd rfl h0
    ·rfl
 ·exact Ev.neg (by simpa using hf) fin
theorem InterchangePrefix : P.garmentlaw34_InterchangePrefix.Pured := fun x y h hy => by
 have hb : 0 ≤ y ∧ y ≤ 65535 := by
  simp [wf40, Lit.wf, IntKind.min, IntKind.max, IntKind.bits, IntKind.signed] at hy
  omega
 obtain ⟨a, rfl⟩ : ∃ a : Nat, y = (a : Int) := ⟨y.toNat, by omega⟩
 exact Ev.some_ (Prefix0 (mkOf x) (wf_of h) a (by omega))
end Go.Proofs.YtghnjnegcdbgnaaDoor.Pure
