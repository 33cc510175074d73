import Derived.Test.YtgbidbhknffdoaaGreatDoorQOrderCompareSayOrderCompare
import Derived.Test.YtgbidbhknffdoaaGreatDoorQNums
namespace Go.Proofs.YtgbidbhknffdoaaGreatDoor.Pure
open Go Go.RowKit P Go.Proofs.YtgbidbhknffdoaaGreatDoorW.PrintWords Go.Proofs.YtgbidbhknffdoaaGreatDoorW.PrintLast Go.Proofs.YtgbidbhknffdoaaGreatDoorW.PrintMore
/-- A sum of numbers that are not negative: nought only if each is. -/
theorem tot_pos : ∀ (l : List Int) (n : Int), 0 ≤ n → n + 1000 * l.length ≤ 1000000 → (∀ x ∈ l, 0 ≤ x ∧ x ≤ 1000) → n ≤ totS n l ∧ (totS n l ≤ 0 → ∀ x ∈ l, x = 0)
  | [], n, _, _, _ => ⟨Int.le_refl _, fun _ x hx => by cases hx⟩
  | c :: r, n, h0, h1, hc => by
    have h2 := hc c (by simp)
    have h3 : countB c = true := by rw [countB_eq]; simp; omega
    simp only [List.length_cons] at h1
    have e : totS n (c :: r) = totS (n + c) r := by
      simp only [totS, List.foldl_cons, if_pos h3]
      rw [wrap_small (by omega)]
    rw [e]
    obtain ⟨i1, i2⟩ := tot_pos r (n + c) (by omega) (by push_cast at h1; omega) (fun x hx => hc x (by simp [hx]))
    refine ⟨by omega, fun hz x hx => ?_⟩
    rcases List.mem_cons.1 hx with rfl | hx
    · omega
    · exact i2 hz x hx
theorem OrderCompare : P.garmentlaw35_OrderCompare.Pured := by
  intro a b _ _
  refine Ev.some_ (f := fun k => garmentlaw35_OrderCompare.f k a b) ?_
  simp only [garmentlaw35_OrderCompare.f]
  have out : ∀ q : Bool, q = true → Ev (fun k => garmentlaw35_OrderCompare.j0 k a b q) true := by
    rintro q rfl
    refine Ev.succ ?_
    simp only [garmentlaw35_OrderCompare.j0]
    exact Ev.pos trivial (Ev.bind example_ev (Ev.pure _))
  by_cases ha : (a.length : Int) > 30
  · exact Ev.pos ha (out _ rfl)
  · refine Ev.neg ha ?_
    by_cases hb : (b.length : Int) > 30
    · exact out _ (by simpa using hb)
    · refine Ev.succ ?_
      simp only [garmentlaw35_OrderCompare.j0]
      refine Ev.neg (by simpa using hb) ?_
      refine Ev.bind (cmp_ev a b (by omega)) ?_
      by_cases hl : a.length = b.length
      · by_cases hc : a.all countB = true ∧ b.all countB = true
        · have e : cmpS a b = (shortS a b, overS a b, 0) := by unfold cmpS; rw [if_pos hl, if_pos hc]
          rw [e]
          have ls : (shortS a b).length = b.length := by simp [shortS]; omega
          have lo : (overS a b).length = b.length := by simp [overS]; omega
          refine Ev.pos rfl (Ev.pos (by simp only [ls]) (Ev.pos (by simp only [lo]) ?_))
          refine Ev.succ ?_
          simp only [garmentlaw35_OrderCompare.j1]
          refine Ev.neg (by simp [hl]) ?_
          have at_ : ∀ i (h : i < b.length), (shortS a b)[i]'(by omega) = mx (a[i]'(by omega) - b[i]) 0 ∧ (overS a b)[i]'(by omega) = mx (b[i] - a[i]'(by omega)) 0 := fun i h => by simp [shortS, overS]
          have key : ∀ (m i : Nat), b.length - i = m → i ≤ b.length → Ev (fun k => garmentlaw35_OrderCompare.l0 k a b (shortS a b) (overS a b) (b.length : Int) (i : Int)) true := by
            intro m
            induction m with
            | zero =>
              intro i hm hi
              refine Ev.succ ?_
              simp only [garmentlaw35_OrderCompare.l0]
              refine Ev.neg (by omega) (Ev.bind (tot_ev _ (by omega)) ?_)
              have hov : ∀ x ∈ overS a b, 0 ≤ x ∧ x ≤ 1000 := by
                intro x hx
                obtain ⟨i, hi, rfl⟩ := List.getElem_of_mem hx
                rw [(at_ i (by omega)).2]
                have h1 := all_at hc.1 i (by omega)
                have h2 := all_at hc.2 i (by omega)
                unfold mx; split <;> omega
              obtain ⟨_, t2⟩ := tot_pos (overS a b) 0 (by omega) (by omega) hov
              by_cases ht : totS 0 (overS a b) > 0
              · exact Ev.pos ht (Ev.bind example_ev (Ev.pure _))
              · refine Ev.neg ht (Ev.bind (add_ev _ _ (by omega)) ?_)
                have hz : ∀ i (h : i < b.length), b[i] ≤ a[i]'(by omega) := by
                  intro i h
                  have h3 := t2 (by omega) _ (List.getElem_mem (l := overS a b) (n := i) (by omega))
                  rw [(at_ i h).2] at h3
                  unfold mx at h3; split at h3 <;> omega
                have es : List.zipWith (· + ·) b (shortS a b) = a := by
                  refine List.ext_getElem (by simp; omega) fun i h1 h2 => ?_
                  simp only [List.getElem_zipWith]
                  have h3 := hz i (by omega)
                  rw [(at_ i (by omega)).1]
                  unfold mx; split <;> omega
                have hsc : (shortS a b).all countB = true := by
                  rw [List.all_eq_true]
                  intro x hx
                  obtain ⟨i, hi, rfl⟩ := List.getElem_of_mem hx
                  rw [(at_ i (by omega)).1, countB_eq]
                  have h1 := all_at hc.1 i (by omega)
                  have h2 := all_at hc.2 i (by omega)
                  unfold mx; split <;> simp <;> omega
                have ea : addS b (shortS a b) = (a, 0) := by
                  unfold addS
                  rw [if_pos (by omega), if_pos ⟨hc.2, hsc⟩, es, if_pos hc.1]
                rw [ea]
                exact Ev.pos rfl (Ev.bind (same_ev _ _ (by simp only; omega)) (Ev.pos (by simp) (Ev.bind example_ev (Ev.pure _))))
            | succ m ih =>
              intro i hm hi
              have hi1 : i < b.length := by omega
              have hi2 : i < a.length := by omega
              obtain ⟨s1, o1⟩ := at_ i hi1
              have h1 := all_at hc.1 i (by omega)
              have h2 := all_at hc.2 i (by omega)
              refine Ev.succ ?_
              simp only [garmentlaw35_OrderCompare.l0]
              rw [rd_at _ i (by omega : i < (shortS a b).length), rd_at _ i (by omega : i < (overS a b).length), rd_at a i hi2, rd_at b i hi1, s1, o1]
              have fin : Ev (fun k => garmentlaw35_OrderCompare.j3 k a b (shortS a b) (overS a b) (b.length : Int) (i : Int) (wrap64 (a[i] + mx (b[i] - a[i]) 0) != wrap64 (b[i] + mx (a[i] - b[i]) 0))) true := by
                refine Ev.succ ?_
                simp only [garmentlaw35_OrderCompare.j3]
                refine Ev.neg ?_ ?_
                · have : a[i] + mx (b[i] - a[i]) 0 = b[i] + mx (a[i] - b[i]) 0 := by unfold mx; split <;> split <;> omega
                  rw [this]; simp
                · rw [wrap_succ (by omega)]
                  exact ih (i + 1) (by omega) (by omega)
              refine Ev.pos (by omega) (Ev.pos (by omega) (Ev.pos (by omega) (Ev.neg (by unfold mx; split <;> omega) (Ev.pos (by omega) (Ev.neg (by unfold mx; split <;> omega) ?_)))))
              by_cases hs : mx (a[i] - b[i]) 0 > 0
              · refine Ev.pos hs (Ev.neg ?_ (Ev.pos (by omega) (Ev.pos (by omega) fin)))
                unfold mx at hs ⊢; split at hs <;> split <;> omega
              · exact Ev.neg hs (Ev.pos (by omega) (Ev.pos (by omega) fin))
          exact key b.length 0 rfl (by omega)
        · have e : cmpS a b = ([], [], 3) := by unfold cmpS; rw [if_pos hl, if_neg hc]
          rw [e]
          exact Ev.neg (by decide) (Ev.pos rfl (Ev.pos rfl (Ev.bind example_ev (Ev.pure _))))
      · have e : cmpS a b = ([], [], 1) := by unfold cmpS; rw [if_neg hl]
        rw [e]
        exact Ev.neg (by decide) (Ev.pos rfl (Ev.pos rfl (Ev.bind example_ev (Ev.pure _))))
end Go.Proofs.YtgbidbhknffdoaaGreatDoor.Pure
