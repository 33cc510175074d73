import Derived.Test.YtgbidbhknffdoaaGreatDoorQOrderAddsSayOrderAdds
import Derived.Test.YtgbidbhknffdoaaGreatDoorQNums
namespace Go.Proofs.YtgbidbhknffdoaaGreatDoor.Pure
open Go Go.RowKit P Go.Proofs.YtgbidbhknffdoaaGreatDoorW.PrintWords Go.Proofs.YtgbidbhknffdoaaGreatDoorW.PrintLast Go.Proofs.YtgbidbhknffdoaaGreatDoorW.PrintMore
theorem tot_sum : ∀ (l : List Int) (n : Int), 0 ≤ n → n + 1000 * l.length ≤ 1000000 → l.all countB = true → totS n l = n + l.sum ∧ 0 ≤ l.sum ∧ l.sum ≤ 1000 * l.length
  | [], n, _, _, _ => ⟨by simp [totS], by simp, by simp⟩
  | c :: r, n, h0, h1, hc => by
    simp only [List.all_cons, Bool.and_eq_true] at hc
    obtain ⟨h3, h4⟩ := hc
    have h2 := h3
    rw [countB_eq] at h2
    have h5 := of_decide_eq_true h2
    simp only [List.length_cons] at h1
    push_cast at h1
    have e : totS n (c :: r) = totS (n + c) r := by
      simp only [totS, List.foldl_cons, if_pos h3]
      rw [wrap_small (by omega)]
    obtain ⟨i1, i2, i3⟩ := tot_sum r (n + c) (by omega) (by omega) h4
    rw [e, i1]
    refine ⟨by simp; omega, by simp; omega, by simp; omega⟩
theorem sum_zip : ∀ (a b : List Int), a.length = b.length → (List.zipWith (· + ·) a b).sum = a.sum + b.sum
  | [], [], _ => rfl
  | x :: a, y :: b, h => by
    simp only [List.zipWith_cons_cons, List.sum_cons]
    rw [sum_zip a b (by simpa using h)]
    omega
theorem add_comm_ (a b : List Int) : addS a b = addS b a := by
  unfold addS
  by_cases hl : a.length = b.length
  · rw [if_pos hl, if_pos hl.symm]
    have e : List.zipWith (· + ·) a b = List.zipWith (· + ·) b a := by
      rw [List.zipWith_comm]; congr 1; funext x y; omega
    by_cases h : a.all countB = true ∧ b.all countB = true
    · rw [if_pos h, if_pos (show b.all countB = true ∧ a.all countB = true from ⟨h.2, h.1⟩), e]
    · rw [if_neg h, if_neg (fun x => h ⟨x.2, x.1⟩)]
  · rw [if_neg hl, if_neg (fun x => hl x.symm)]
theorem add_ok {a b : List Int} (h : (addS a b).2 = 0) : a.length = b.length ∧ a.all countB = true ∧ b.all countB = true ∧ (List.zipWith (· + ·) a b).all countB = true ∧ addS a b = (List.zipWith (· + ·) a b, 0) := by
  unfold addS at h ⊢
  by_cases hl : a.length = b.length
  · rw [if_pos hl] at h ⊢
    by_cases hc : a.all countB = true ∧ b.all countB = true
    · rw [if_pos hc] at h ⊢
      by_cases hz : (List.zipWith (· + ·) a b).all countB = true
      · rw [if_pos hz]; exact ⟨hl, hc.1, hc.2, hz, rfl⟩
      · rw [if_neg hz] at h; simp at h
    · rw [if_neg hc] at h; simp at h
  · rw [if_neg hl] at h; simp at h
theorem add_is {a b : List Int} (h1 : a.length = b.length) (h2 : a.all countB = true) (h3 : b.all countB = true) (h4 : (List.zipWith (· + ·) a b).all countB = true) : addS a b = (List.zipWith (· + ·) a b, 0) := by
  unfold addS
  rw [if_pos h1, if_pos ⟨h2, h3⟩, if_pos h4]
theorem OrderAdds : P.garmentlaw35_OrderAdds.Pured := by
  intro a b c _ _ _
  refine Ev.some_ (f := fun k => garmentlaw35_OrderAdds.f k a b c) ?_
  simp only [garmentlaw35_OrderAdds.f]
  have out : ∀ q : Bool, q = true → Ev (fun k => garmentlaw35_OrderAdds.j0 k a b c q) true := by
    rintro q rfl
    refine Ev.succ ?_
    simp only [garmentlaw35_OrderAdds.j0]
    exact Ev.pos trivial (Ev.bind example_ev (Ev.pure _))
  by_cases ha : (a.length : Int) > 30
  · exact Ev.pos ha (out _ rfl)
  · refine Ev.neg ha ?_
    by_cases hb : (b.length : Int) > 30
    · exact Ev.pos hb (out _ rfl)
    · refine Ev.neg hb ?_
      by_cases hcc : (c.length : Int) > 30
      · exact out _ (by simpa using hcc)
      · refine Ev.succ ?_
        simp only [garmentlaw35_OrderAdds.j0]
        refine Ev.neg (by simpa using hcc) ?_
        refine Ev.bind (add_ev a b (by omega)) (Ev.bind (add_ev b a (by omega)) ?_)
        rw [add_comm_ b a]
        have l1 : (addS a b).1.length ≤ 1000000000000 := by
          unfold addS; split <;> (try split) <;> (try split) <;> simp <;> omega
        refine Ev.pos rfl (Ev.bind (same_ev _ _ l1) ?_)
        refine Ev.succ ?_
        simp only [garmentlaw35_OrderAdds.j1]
        refine Ev.neg (by simp) ?_
        by_cases he : (addS a b).2 = 0
        · obtain ⟨hl, hA, hB, hZ, hE⟩ := add_ok he
          refine Ev.pos he (Ev.pos (by omega) (Ev.pos (by simp; omega) ?_))
          have hz0 : List.zipWith (· + ·) a (List.replicate ((a.length : Int) : Int).toNat 0) = a := by
            refine List.ext_getElem (by simp) fun i h1 h2 => ?_
            simp
          have hR : (List.replicate ((a.length : Int) : Int).toNat (0 : Int)).all countB = true := by
            rw [List.all_eq_true]
            intro x hx
            rw [List.eq_of_mem_replicate hx]
            rfl
          have e0 : addS a (List.replicate ((a.length : Int) : Int).toNat 0) = (a, 0) := by
            rw [add_is (by simp) hA hR (by rw [hz0]; exact hA), hz0]
          refine Ev.bind (add_ev a _ (by omega)) ?_
          rw [e0]
          refine Ev.pos rfl (Ev.bind (same_ev _ _ (by simp only; omega)) (Ev.pos (by simp) ?_))
          rw [hE]
          simp only
          have hzl : (List.zipWith (· + ·) a b).length = a.length := by simp; omega
          refine Ev.bind (tot_ev _ (by omega)) (Ev.bind (tot_ev a (by omega)) (Ev.bind (tot_ev b (by omega)) ?_))
          obtain ⟨t1, _, _⟩ := tot_sum (List.zipWith (· + ·) a b) 0 (by omega) (by omega) hZ
          obtain ⟨t2, t2a, t2b⟩ := tot_sum a 0 (by omega) (by omega) hA
          obtain ⟨t3, t3a, t3b⟩ := tot_sum b 0 (by omega) (by omega) hB
          have et : (totS 0 (List.zipWith (· + ·) a b) != wrap64 (totS 0 a + totS 0 b)) = false := by
            rw [t1, t2, t3, sum_zip a b hl, wrap_small (by omega)]
            simp
          rw [et]
          refine Ev.succ ?_
          simp only [garmentlaw35_OrderAdds.j2]
          refine Ev.neg (by simp) (Ev.bind (add_ev _ c (by omega)) ?_)
          by_cases h2 : (addS (List.zipWith (· + ·) a b) c).2 = 0
          · obtain ⟨gl, _, gC, gZ, gE⟩ := add_ok h2
            refine Ev.pos h2 ?_
            have hlc : b.length = c.length := by omega
            have eas : List.zipWith (· + ·) a (List.zipWith (· + ·) b c) = List.zipWith (· + ·) (List.zipWith (· + ·) a b) c := by
              refine List.ext_getElem (by simp) fun i h1 h2 => ?_
              simp; omega
            have hbc : (List.zipWith (· + ·) b c).all countB = true := by
              rw [List.all_eq_true]
              intro x hx
              obtain ⟨i, hi, rfl⟩ := List.getElem_of_mem hx
              have hi1 : i < b.length := by simp at hi; omega
              have g1 := all_at gZ i (by simp; omega)
              have g2 := all_at hA i (by omega)
              have g3 := all_at hB i hi1
              have g4 := all_at gC i (by omega)
              simp only [List.getElem_zipWith] at g1 ⊢
              rw [countB_eq]
              simp; omega
            have e1 : addS b c = (List.zipWith (· + ·) b c, 0) := add_is hlc hB gC hbc
            have e2 : addS a (List.zipWith (· + ·) b c) = (List.zipWith (· + ·) (List.zipWith (· + ·) a b) c, 0) := by
              rw [add_is (by simp; omega) hA hbc (by rw [eas]; exact gZ), eas]
            refine Ev.bind (add_ev b c (by omega)) ?_
            rw [e1]
            refine Ev.bind (add_ev a _ (by omega)) ?_
            rw [e2, gE]
            refine Ev.pos rfl (Ev.pos rfl (Ev.bind (same_ev _ _ (by simp; omega)) (Ev.pos (by simp) (Ev.bind example_ev (Ev.pure _)))))
          · exact Ev.neg h2 (Ev.bind example_ev (Ev.pure _))
        · exact Ev.neg he (Ev.bind example_ev (Ev.pure _))
end Go.Proofs.YtgbidbhknffdoaaGreatDoor.Pure
