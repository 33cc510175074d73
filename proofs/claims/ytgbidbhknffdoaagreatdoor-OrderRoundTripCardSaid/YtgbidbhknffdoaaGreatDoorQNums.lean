/- What the functions on counts of orders and of their reference compute. -/
import Derived.Test.YtgbidbhknffdoaaGreatDoorQEx
import Derived.Test.YtgbidbhknffdoaaGreatDoorJ1
import Derived.Test.YtgbidbhknffdoaaGreatDoorJ2
import Derived.Test.YtgbidbhknffdoaaGreatDoorJ3
namespace Go.Proofs.YtgbidbhknffdoaaGreatDoor
open Go Go.RowKit P Go.Proofs.YtgbidbhknffdoaaGreatDoorW.PrintWords Go.Proofs.YtgbidbhknffdoaaGreatDoorW.PrintLast Go.Proofs.YtgbidbhknffdoaaGreatDoorW.PrintMore

theorem rd_at (l : List Int) (i : Nat) (h : i < l.length) : rd l (i : Int) = l[i] := by
  unfold rd; simp [List.getD_eq_getElem?_getD, List.getElem?_eq_getElem h]
theorem Ev.succ {α : Type} {f : Nat → Option α} {r : α} (h : Ev (fun k => f (k + 1)) r) : Ev f r := Ev.step h (fun _ => rfl)

theorem same_ev (a b : List Int) (hb : a.length ≤ 1000000000000) : Ev (fun k => garmentref35_Same.f k a b) (decide (a = b)) := by
  unfold garmentref35_Same.f
  by_cases hl : a.length = b.length
  · refine Ev.pos (by omega) ?_
    have key : ∀ (m i : Nat), a.length - i = m → i ≤ a.length → Ev (fun k => garmentref35_Same.l0 k a b (i : Int)) (decide (a.drop i = b.drop i)) := by
      intro m
      induction m with
      | zero =>
        intro i hm hi
        refine Ev.succ ?_
        simp only [garmentref35_Same.l0]
        refine Ev.neg (by omega) ?_
        have h1 : a.drop i = [] := List.drop_eq_nil_of_le (by omega)
        have h2 : b.drop i = [] := List.drop_eq_nil_of_le (by omega)
        rw [h1, h2]
        exact Ev.pure _
      | succ m ih =>
        intro i hm hi
        have hi1 : i < a.length := by omega
        have hi2 : i < b.length := by omega
        refine Ev.succ ?_
        simp only [garmentref35_Same.l0]
        refine Ev.pos (by omega) (Ev.pos (by omega) (Ev.pos (by omega) ?_))
        rw [rd_at a i hi1, rd_at b i hi2, List.drop_eq_getElem_cons hi1, List.drop_eq_getElem_cons hi2]
        by_cases he : a[i] = b[i]
        · refine Ev.pos he ?_
          rw [wrap_succ (by omega)]
          have e : decide (a[i] :: a.drop (i + 1) = b[i] :: b.drop (i + 1)) = decide (a.drop (i + 1) = b.drop (i + 1)) := by simp only [he, List.cons.injEq, true_and]
          rw [e]
          exact ih (i + 1) (by omega) (by omega)
        · refine Ev.neg he ?_
          simp only [List.cons.injEq, he, false_and, decide_false]
          exact Ev.pure _
    have := key a.length 0 rfl (by omega)
    simpa using this
  · refine Ev.neg (by omega) ?_
    have : decide (a = b) = false := by
      simp only [decide_eq_false_iff_not]
      intro h; exact hl (by rw [h])
    rw [this]
    exact Ev.pure _

theorem counts_f (l : List Int) : order_counts.f l = some (l.all countB) := rfl
theorem countB_eq (x : Int) : countB x = decide (0 ≤ x ∧ x ≤ 1000) := by
  unfold countB
  by_cases h : 0 ≤ x <;> by_cases h2 : x ≤ 1000 <;> simp [h, h2]
theorem within_ev (l : List Int) (hb : l.length ≤ 1000000000000) : Ev (fun k => garmentref35_within.f k l) (l.all countB) := by
  unfold garmentref35_within.f
  have key : ∀ (m i : Nat), l.length - i = m → i ≤ l.length → Ev (fun k => garmentref35_within.l0 k l (i : Int)) ((l.drop i).all countB) := by
    intro m
    induction m with
    | zero =>
      intro i hm hi
      refine Ev.succ ?_
      simp only [garmentref35_within.l0]
      refine Ev.neg (by omega) ?_
      rw [List.drop_eq_nil_of_le (by omega)]
      exact Ev.pure _
    | succ m ih =>
      intro i hm hi
      have hi1 : i < l.length := by omega
      refine Ev.succ ?_
      simp only [garmentref35_within.l0]
      refine Ev.pos (by omega) (Ev.pos (by omega) ?_)
      rw [rd_at l i hi1, List.drop_eq_getElem_cons hi1, List.all_cons, countB_eq]
      have fin : ∀ q : Bool, q = !(decide (0 ≤ l[i] ∧ l[i] ≤ 1000)) → Ev (fun k => garmentref35_within.j1 k l (i : Int) q) (decide (0 ≤ l[i] ∧ l[i] ≤ 1000) && (l.drop (i + 1)).all countB) := by
        intro q hq
        refine Ev.succ ?_
        simp only [garmentref35_within.j1]
        by_cases hc : 0 ≤ l[i] ∧ l[i] ≤ 1000
        · rw [decide_eq_true hc] at hq ⊢
          refine Ev.neg (by simp [hq]) ?_
          rw [wrap_succ (by omega), Bool.true_and]
          exact ih (i + 1) (by omega) (by omega)
        · rw [decide_eq_false hc] at hq ⊢
          refine Ev.pos (by simp [hq]) ?_
          rw [Bool.false_and]
          exact Ev.pure _
      by_cases h0 : l[i] < 0
      · refine Ev.pos h0 (fin true ?_)
        simp; omega
      · refine Ev.neg h0 (fin _ ?_)
        rw [Bool.eq_iff_iff]; simp; omega
  have := key l.length 0 rfl (by omega)
  simpa using this

/-- Add, as the chapter says it. -/
def addS (a b : List Int) : List Int × Int :=
  if a.length = b.length then if a.all countB = true ∧ b.all countB = true then if (List.zipWith (· + ·) a b).all countB = true then (List.zipWith (· + ·) a b, 0) else ([], 3) else ([], 3) else ([], 1)
theorem all_at {l : List Int} (h : l.all countB = true) (i : Nat) (hi : i < l.length) : 0 ≤ l[i] ∧ l[i] ≤ 1000 := by
  have := List.all_eq_true.1 h l[i] (List.getElem_mem hi)
  rw [countB_eq] at this
  exact of_decide_eq_true this
theorem wrap_small {x : Int} (h : -9223372036854775808 ≤ x ∧ x ≤ 9223372036854775807) : wrap64 x = x := by
  unfold wrap64; omega
theorem add_ev (a b : List Int) (hb : a.length ≤ 1000000000000) : Ev (fun k => order_Add.f k a b) (addS a b) := by
  unfold order_Add.f addS
  by_cases hl : a.length = b.length
  · refine Ev.pos (by omega) ?_
    rw [if_pos hl]
    simp only [counts_f, Option.bind_some]
    have err : ∀ q : Bool, q = true → Ev (fun k => order_Add.j0 k a b q) ([], 3) := by
      rintro q rfl
      refine Ev.succ ?_
      simp only [order_Add.j0]
      exact Ev.pos trivial (Ev.pure _)
    by_cases ha : a.all countB = true
    · refine Ev.pos ha ?_
      by_cases hbb : b.all countB = true
      · rw [if_pos ⟨ha, hbb⟩]
        refine Ev.succ ?_
        simp only [order_Add.j0]
        refine Ev.neg (by simp [hbb]) (Ev.pos (by omega) (Ev.pos (by simp; omega) ?_))
        have key : ∀ (m i : Nat) (o : List Int), a.length - i = m → i ≤ a.length → o.length = a.length → o.take i = (List.zipWith (· + ·) a b).take i →
            Ev (fun k => order_Add.l0 k a b o (a.length : Int) (i : Int)) (if (List.zipWith (· + ·) a b).all countB = true then (List.zipWith (· + ·) a b, 0) else ([], 3)) := by
          intro m
          induction m with
          | zero =>
            intro i o hm hi ho hp
            refine Ev.succ ?_
            simp only [order_Add.l0]
            refine Ev.neg (by omega) ?_
            have e : o = List.zipWith (· + ·) a b := by
              rw [List.take_of_length_le (by omega), List.take_of_length_le (by simp; omega)] at hp
              exact hp
            subst e
            simp only [counts_f, Option.bind_some]
            by_cases hc : (List.zipWith (· + ·) a b).all countB = true
            · refine Ev.pos hc ?_; rw [if_pos hc]; exact Ev.pure _
            · refine Ev.neg hc ?_; rw [if_neg hc]; exact Ev.pure _
          | succ m ih =>
            intro i o hm hi ho hp
            have hi1 : i < a.length := by omega
            have hi2 : i < b.length := by omega
            refine Ev.succ ?_
            simp only [order_Add.l0]
            refine Ev.pos (by omega) (Ev.pos (by omega) (Ev.pos (by omega) (Ev.pos (by omega) (Ev.pos (by omega) ?_))))
            rw [rd_at a i hi1, rd_at b i hi2, wrap_succ (by omega)]
            have h1 := all_at ha i hi1
            have h2 := all_at hbb i hi2
            rw [wrap_small (by omega)]
            refine ih (i + 1) _ (by omega) (by omega) (by simp [ho]) ?_
            have hz : i < (List.zipWith (· + ·) a b).length := by simp; omega
            have ho1 : i < (o.set ((i : Int) : Int).toNat (a[i] + b[i])).length := by simp; omega
            rw [List.take_succ_eq_append_getElem hz, List.take_succ_eq_append_getElem ho1, ← hp]
            simp [List.take_set_of_le]
        exact key a.length 0 _ rfl (by omega) (by simp) (by simp)
      · rw [if_neg (by simp [hbb])]
        exact err _ (by simpa using hbb)
    · rw [if_neg (by simp [ha])]
      exact Ev.neg ha (err _ rfl)
  · rw [if_neg hl]
    exact Ev.neg (by omega) (Ev.pure _)
theorem radd_ev (a b : List Int) (hb : a.length ≤ 1000000000000) (hb2 : b.length ≤ 1000000000000) : Ev (fun k => garmentref35_Add.f k a b) (addS a b) := by
  unfold garmentref35_Add.f addS
  by_cases hl : a.length = b.length
  · refine Ev.pos (by omega) ?_
    rw [if_pos hl]
    refine Ev.bind (within_ev a hb) ?_
    have err : ∀ q : Bool, q = true → Ev (fun k => garmentref35_Add.j0 k a b q) ([], 3) := by
      rintro q rfl
      refine Ev.succ ?_
      simp only [garmentref35_Add.j0]
      exact Ev.pos trivial (Ev.pure _)
    by_cases ha : a.all countB = true
    · refine Ev.pos ha ?_
      refine Ev.bind (within_ev b hb2) ?_
      by_cases hbb : b.all countB = true
      · rw [if_pos ⟨ha, hbb⟩]
        refine Ev.succ ?_
        simp only [garmentref35_Add.j0]
        refine Ev.neg (by simp [hbb]) ?_
        have key : ∀ (m i : Nat), a.length - i = m → i ≤ a.length →
            Ev (fun k => garmentref35_Add.l0 k a b ((List.zipWith (· + ·) a b).take i) (i : Int)) (if (List.zipWith (· + ·) a b).all countB = true then (List.zipWith (· + ·) a b, 0) else ([], 3)) := by
          intro m
          induction m with
          | zero =>
            intro i hm hi
            refine Ev.succ ?_
            simp only [garmentref35_Add.l0]
            refine Ev.neg (by omega) ?_
            rw [List.take_of_length_le (by simp; omega)]
            refine Ev.bind (within_ev _ (by simp; omega)) ?_
            by_cases hc : (List.zipWith (· + ·) a b).all countB = true
            · refine Ev.pos hc ?_; rw [if_pos hc]; exact Ev.pure _
            · refine Ev.neg hc ?_; rw [if_neg hc]; exact Ev.pure _
          | succ m ih =>
            intro i hm hi
            have hi1 : i < a.length := by omega
            have hi2 : i < b.length := by omega
            have hz : i < (List.zipWith (· + ·) a b).length := by simp; omega
            refine Ev.succ ?_
            simp only [garmentref35_Add.l0]
            refine Ev.pos (by omega) (Ev.pos (by omega) (Ev.pos (by omega) (Ev.pos (by simp; omega) ?_)))
            rw [rd_at a i hi1, rd_at b i hi2, wrap_succ (by omega)]
            have h1 := all_at ha i hi1
            have h2 := all_at hbb i hi2
            rw [wrap_small (by omega)]
            have := ih (i + 1) (by omega) (by omega)
            rw [List.take_succ_eq_append_getElem hz] at this
            simpa using this
        have := key a.length 0 rfl (by omega)
        simpa using this
      · rw [if_neg (by simp [hbb])]
        exact err _ (by simpa using hbb)
    · rw [if_neg (by simp [ha])]
      exact Ev.neg ha (err _ rfl)
  · rw [if_neg hl]
    exact Ev.neg (by omega) (Ev.pure _)
/-- Compare, as the chapter says it. -/
def shortS (a b : List Int) : List Int := List.zipWith (fun n m => mx (n - m) 0) a b
def overS (a b : List Int) : List Int := List.zipWith (fun n m => mx (m - n) 0) a b
def cmpS (a b : List Int) : List Int × List Int × Int :=
  if a.length = b.length then if a.all countB = true ∧ b.all countB = true then (shortS a b, overS a b, 0) else ([], [], 3) else ([], [], 1)
theorem mx_comm (x : Int) : mx 0 x = mx x 0 := by
  unfold mx
  by_cases h : 0 < x
  · rw [if_pos h, if_neg (by omega)]
  · rw [if_neg h]
    by_cases h2 : x < 0
    · rw [if_pos h2]
    · rw [if_neg h2]; omega
theorem cmp_ev (a b : List Int) (hb : a.length ≤ 1000000000000) : Ev (fun k => order_Compare.f k a b) (cmpS a b) := by
  unfold order_Compare.f cmpS
  by_cases hl : a.length = b.length
  · refine Ev.pos (by omega) ?_
    rw [if_pos hl]
    simp only [counts_f, Option.bind_some]
    have err : ∀ q : Bool, q = true → Ev (fun k => order_Compare.j0 k a b [] [] q) ([], [], 3) := by
      rintro q rfl
      refine Ev.succ ?_
      simp only [order_Compare.j0]
      exact Ev.pos trivial (Ev.pure _)
    by_cases ha : a.all countB = true
    · refine Ev.pos ha ?_
      by_cases hbb : b.all countB = true
      · rw [if_pos ⟨ha, hbb⟩]
        refine Ev.succ ?_
        simp only [order_Compare.j0]
        refine Ev.neg (by simp [hbb]) ?_
        have key : ∀ (m i : Nat), a.length - i = m → i ≤ a.length → Ev (fun k => order_Compare.l0 k b ((shortS a b).take i) ((overS a b).take i) a (a.length : Int) (i : Int)) (shortS a b, overS a b, 0) := by
          intro m
          induction m with
          | zero =>
            intro i hm hi
            refine Ev.succ ?_
            simp only [order_Compare.l0]
            refine Ev.neg (by omega) ?_
            rw [List.take_of_length_le (by simp [shortS]; omega), List.take_of_length_le (by simp [overS]; omega)]
            exact Ev.pure _
          | succ m ih =>
            intro i hm hi
            have hi1 : i < a.length := by omega
            have hi2 : i < b.length := by omega
            have hz : i < (shortS a b).length := by simp [shortS]; omega
            have hz2 : i < (overS a b).length := by simp [overS]; omega
            refine Ev.succ ?_
            simp only [order_Compare.l0]
            refine Ev.pos (by omega) (Ev.pos (by omega) (Ev.pos (by omega) (Ev.pos (by omega) (Ev.pos (by simp; omega) (Ev.pos (by simp; omega) ?_)))))
            rw [rd_at a i hi1, rd_at b i hi2, wrap_succ (by omega)]
            have h1 := all_at ha i hi1
            have h2 := all_at hbb i hi2
            rw [wrap_small (by omega), wrap_small (by omega)]
            have := ih (i + 1) (by omega) (by omega)
            rw [List.take_succ_eq_append_getElem hz, List.take_succ_eq_append_getElem hz2] at this
            simpa [shortS, overS] using this
        have := key a.length 0 rfl (by omega)
        simpa using this
      · rw [if_neg (by simp [hbb])]
        exact err _ (by simpa using hbb)
    · rw [if_neg (by simp [ha])]
      exact Ev.neg ha (err _ rfl)
  · rw [if_neg hl]
    exact Ev.neg (by omega) (Ev.pure _)
theorem rcmp_ev (a b : List Int) (hb : a.length ≤ 1000000000000) (hb2 : b.length ≤ 1000000000000) : Ev (fun k => garmentref35_Compare.f k a b) (cmpS a b) := by
  unfold garmentref35_Compare.f cmpS
  by_cases hl : a.length = b.length
  · refine Ev.pos (by omega) ?_
    rw [if_pos hl]
    refine Ev.bind (within_ev a hb) ?_
    have err : ∀ q : Bool, q = true → Ev (fun k => garmentref35_Compare.j0 k a b [] [] q) ([], [], 3) := by
      rintro q rfl
      refine Ev.succ ?_
      simp only [garmentref35_Compare.j0]
      exact Ev.pos trivial (Ev.pure _)
    by_cases ha : a.all countB = true
    · refine Ev.pos ha ?_
      refine Ev.bind (within_ev b hb2) ?_
      by_cases hbb : b.all countB = true
      · rw [if_pos ⟨ha, hbb⟩]
        refine Ev.succ ?_
        simp only [garmentref35_Compare.j0]
        refine Ev.neg (by simp [hbb]) ?_
        have key : ∀ (m i : Nat), a.length - i = m → i ≤ a.length → Ev (fun k => garmentref35_Compare.l0 k a b ((shortS a b).take i) ((overS a b).take i) (i : Int)) (shortS a b, overS a b, 0) := by
          intro m
          induction m with
          | zero =>
            intro i hm hi
            refine Ev.succ ?_
            simp only [garmentref35_Compare.l0]
            refine Ev.neg (by omega) ?_
            rw [List.take_of_length_le (by simp [shortS]; omega), List.take_of_length_le (by simp [overS]; omega)]
            exact Ev.pure _
          | succ m ih =>
            intro i hm hi
            have hi1 : i < a.length := by omega
            have hi2 : i < b.length := by omega
            have hz : i < (shortS a b).length := by simp [shortS]; omega
            have hz2 : i < (overS a b).length := by simp [overS]; omega
            refine Ev.succ ?_
            simp only [garmentref35_Compare.l0]
            refine Ev.pos (by omega) (Ev.pos (by omega) (Ev.pos (by omega) (Ev.pos (by simp; omega) (Ev.pos (by simp; omega) ?_))))
            rw [rd_at a i hi1, rd_at b i hi2, wrap_succ (by omega)]
            have h1 := all_at ha i hi1
            have h2 := all_at hbb i hi2
            rw [wrap_small (by omega), wrap_small (by omega), mx_comm, mx_comm]
            have := ih (i + 1) (by omega) (by omega)
            rw [List.take_succ_eq_append_getElem hz, List.take_succ_eq_append_getElem hz2] at this
            simpa [shortS, overS] using this
        have := key a.length 0 rfl (by omega)
        simpa using this
      · rw [if_neg (by simp [hbb])]
        exact err _ (by simpa using hbb)
    · rw [if_neg (by simp [ha])]
      exact Ev.neg ha (err _ rfl)
  · rw [if_neg hl]
    exact Ev.neg (by omega) (Ev.pure _)

/-- Total, with the machine's sums. -/
def totS (n : Int) (l : List Int) : Int := l.foldl (fun n c => if countB c = true then wrap64 (n + c) else n) n
theorem count_f (x : Int) : order_count.f x = some (countB x) := by
  unfold order_count.f
  rw [countB_eq]
  by_cases h : 0 ≤ x <;> by_cases h2 : x ≤ 1000 <;> simp [h, h2]
theorem tot_ev (l : List Int) (hb : l.length ≤ 1000000000000) : Ev (fun k => order_Total.f k l) (totS 0 l) := by
  unfold order_Total.f
  have key : ∀ (m i : Nat) (n : Int), l.length - i = m → i ≤ l.length → Ev (fun k => order_Total.l0 k n l (l.length : Int) (i : Int)) (totS n (l.drop i)) := by
    intro m
    induction m with
    | zero =>
      intro i n hm hi
      refine Ev.succ ?_
      simp only [order_Total.l0]
      refine Ev.neg (by omega) ?_
      rw [List.drop_eq_nil_of_le (by omega)]
      exact Ev.pure _
    | succ m ih =>
      intro i n hm hi
      have hi1 : i < l.length := by omega
      refine Ev.succ ?_
      simp only [order_Total.l0, count_f, Option.bind_some]
      refine Ev.pos (by omega) (Ev.pos (by omega) (Ev.pos (by omega) ?_))
      rw [rd_at l i hi1, wrap_succ (by omega), List.drop_eq_getElem_cons hi1]
      by_cases hc : countB l[i] = true
      · refine Ev.pos hc ?_
        have := ih (i + 1) (wrap64 (n + l[i])) (by omega) (by omega)
        simp only [totS, List.foldl_cons, if_pos hc]; exact this
      · refine Ev.neg hc ?_
        have := ih (i + 1) n (by omega) (by omega)
        simp only [totS, List.foldl_cons, if_neg hc]; exact this
  have := key l.length 0 0 rfl (by omega)
  simpa using this
theorem rtot_ev (l : List Int) (hb : l.length ≤ 1000000000000) : Ev (fun k => garmentref35_Total.f k l) (totS 0 l) := by
  unfold garmentref35_Total.f
  have key : ∀ (m i : Nat) (n : Int), l.length - i = m → i ≤ l.length → Ev (fun k => garmentref35_Total.l0 k l n (i : Int)) (totS n (l.drop i)) := by
    intro m
    induction m with
    | zero =>
      intro i n hm hi
      refine Ev.succ ?_
      simp only [garmentref35_Total.l0]
      refine Ev.neg (by omega) ?_
      rw [List.drop_eq_nil_of_le (by omega)]
      exact Ev.pure _
    | succ m ih =>
      intro i n hm hi
      have hi1 : i < l.length := by omega
      refine Ev.succ ?_
      simp only [garmentref35_Total.l0]
      refine Ev.pos (by omega) (Ev.pos (by omega) ?_)
      rw [rd_at l i hi1, List.drop_eq_getElem_cons hi1]
      have fin : ∀ q : Bool, q = countB l[i] → Ev (fun k => garmentref35_Total.j1 k l n (i : Int) q) (totS n (l[i] :: l.drop (i + 1))) := by
        intro q hq
        refine Ev.succ ?_
        simp only [garmentref35_Total.j1]
        rw [rd_at l i hi1, wrap_succ (by omega)]
        by_cases hc : countB l[i] = true
        · refine Ev.pos (by rw [hq, hc]) (Ev.pos (by omega) (Ev.pos (by omega) ?_))
          have := ih (i + 1) (wrap64 (n + l[i])) (by omega) (by omega)
          simp only [totS, List.foldl_cons, if_pos hc]; exact this
        · refine Ev.neg (by rw [hq]; exact hc) ?_
          have := ih (i + 1) n (by omega) (by omega)
          simp only [totS, List.foldl_cons, if_neg hc]; exact this
      by_cases h0 : l[i] ≥ 0
      · refine Ev.pos h0 (fin _ ?_)
        rw [countB_eq]
        by_cases h1 : l[i] ≤ 1000 <;> simp [h1] <;> omega
      · refine Ev.neg h0 (fin _ ?_)
        rw [countB_eq]
        simp; omega
  have := key l.length 0 0 rfl (by omega)
  simpa using this
end Go.Proofs.YtgbidbhknffdoaaGreatDoor
