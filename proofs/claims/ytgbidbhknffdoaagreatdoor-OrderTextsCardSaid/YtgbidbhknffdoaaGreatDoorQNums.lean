/- What the small functions on lists of counts compute. -/
import Derived.Test.YtgbidbhknffdoaaGreatDoorQEx
import Derived.Test.YtgbidbhknffdoaaGreatDoorJ1
import Derived.Test.YtgbidbhknffdoaaGreatDoorJ2
namespace Go.Proofs.YtgbidbhknffdoaaGreatDoor
open Go Go.RowKit P Go.Proofs.YtgbidbhknffdoaaGreatDoorW.PrintWords Go.Proofs.YtgbidbhknffdoaaGreatDoorW.PrintLast Go.Proofs.YtgbidbhknffdoaaGreatDoorW.PrintMore

theorem rd_at (l : List Int) (i : Nat) (h : i < l.length) : rd l (i : Int) = l[i] := by
  unfold rd; simp [List.getD_eq_getElem?_getD, List.getElem?_eq_getElem h]
theorem Ev.succ {α : Type} {f : Nat → Option α} {r : α} (h : Ev (fun k => f (k + 1)) r) : Ev f r := Ev.step h (fun _ => rfl)

theorem same_ev (a b : List Int) (hb : a.length ≤ 1000000000000) : Ev (fun k => garmentref35_Same.f k a b) (decide (a = b)) := by
  unfold garmentref35_Same.f
  by_cases hl : a.length = b.length
  · refine Ev.pos (by omega) ?_
    have key : ∀ (m i : Nat), a.length - i = m → i ≤ a.length → Ev (fun k => garmentref35_Same.l0 k a b (i : Int)) (decide (a.drop i = b.drop i)) := by
      intro m
      induction m with
      | zero =>
        intro i hm hi
        refine Ev.succ ?_
        simp only [garmentref35_Same.l0]
        refine Ev.neg (by omega) ?_
        have h1 : a.drop i = [] := List.drop_eq_nil_of_le (by omega)
        have h2 : b.drop i = [] := List.drop_eq_nil_of_le (by omega)
        rw [h1, h2]
        exact Ev.pure _
      | succ m ih =>
        intro i hm hi
        have hi1 : i < a.length := by omega
        have hi2 : i < b.length := by omega
        refine Ev.succ ?_
        simp only [garmentref35_Same.l0]
        refine Ev.pos (by omega) (Ev.pos (by omega) (Ev.pos (by omega) ?_))
        rw [rd_at a i hi1, rd_at b i hi2, List.drop_eq_getElem_cons hi1, List.drop_eq_getElem_cons hi2]
        by_cases he : a[i] = b[i]
        · refine Ev.pos he ?_
          rw [wrap_succ (by omega)]
          have e : decide (a[i] :: a.drop (i + 1) = b[i] :: b.drop (i + 1)) = decide (a.drop (i + 1) = b.drop (i + 1)) := by simp only [he, List.cons.injEq, true_and]
          rw [e]
          exact ih (i + 1) (by omega) (by omega)
        · refine Ev.neg he ?_
          simp only [List.cons.injEq, he, false_and, decide_false]
          exact Ev.pure _
    have := key a.length 0 rfl (by omega)
    simpa using this
  · refine Ev.neg (by omega) ?_
    have : decide (a = b) = false := by
      simp only [decide_eq_false_iff_not]
      intro h; exact hl (by rw [h])
    rw [this]
    exact Ev.pure _

theorem counts_f (l : List Int) : order_counts.f l = some (l.all countB) := rfl
theorem countB_eq (x : Int) : countB x = decide (0 ≤ x ∧ x ≤ 1000) := by
  unfold countB
  by_cases h : 0 ≤ x <;> by_cases h2 : x ≤ 1000 <;> simp [h, h2]
theorem within_ev (l : List Int) (hb : l.length ≤ 1000000000000) : Ev (fun k => garmentref35_within.f k l) (l.all countB) := by
  unfold garmentref35_within.f
  have key : ∀ (m i : Nat), l.length - i = m → i ≤ l.length → Ev (fun k => garmentref35_within.l0 k l (i : Int)) ((l.drop i).all countB) := by
    intro m
    induction m with
    | zero =>
      intro i hm hi
      refine Ev.succ ?_
      simp only [garmentref35_within.l0]
      refine Ev.neg (by omega) ?_
      rw [List.drop_eq_nil_of_le (by omega)]
      exact Ev.pure _
    | succ m ih =>
      intro i hm hi
      have hi1 : i < l.length := by omega
      refine Ev.succ ?_
      simp only [garmentref35_within.l0]
      refine Ev.pos (by omega) (Ev.pos (by omega) ?_)
      rw [rd_at l i hi1, List.drop_eq_getElem_cons hi1, List.all_cons, countB_eq]
      have fin : ∀ q : Bool, q = !(decide (0 ≤ l[i] ∧ l[i] ≤ 1000)) → Ev (fun k => garmentref35_within.j1 k l (i : Int) q) (decide (0 ≤ l[i] ∧ l[i] ≤ 1000) && (l.drop (i + 1)).all countB) := by
        intro q hq
        refine Ev.succ ?_
        simp only [garmentref35_within.j1]
        by_cases hc : 0 ≤ l[i] ∧ l[i] ≤ 1000
        · rw [decide_eq_true hc] at hq ⊢
          refine Ev.neg (by simp [hq]) ?_
          rw [wrap_succ (by omega), Bool.true_and]
          exact ih (i + 1) (by omega) (by omega)
        · rw [decide_eq_false hc] at hq ⊢
          refine Ev.pos (by simp [hq]) ?_
          rw [Bool.false_and]
          exact Ev.pure _
      by_cases h0 : l[i] < 0
      · refine Ev.pos h0 (fin true ?_)
        simp; omega
      · refine Ev.neg h0 (fin _ ?_)
        rw [Bool.eq_iff_iff]; simp; omega
  have := key l.length 0 rfl (by omega)
  simpa using this

theorem all_at {l : List Int} (h : l.all countB = true) (i : Nat) (hi : i < l.length) : 0 ≤ l[i] ∧ l[i] ≤ 1000 := by
  have := List.all_eq_true.1 h l[i] (List.getElem_mem hi)
  rw [countB_eq] at this
  exact of_decide_eq_true this
theorem wrap_small {x : Int} (h : -9223372036854775808 ≤ x ∧ x ≤ 9223372036854775807) : wrap64 x = x := by
  unfold wrap64; omega
end Go.Proofs.YtgbidbhknffdoaaGreatDoor
