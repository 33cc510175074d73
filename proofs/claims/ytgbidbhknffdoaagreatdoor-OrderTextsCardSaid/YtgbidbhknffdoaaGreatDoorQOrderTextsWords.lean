/- What the functions on sizes and on orders' texts compute. -/
import Derived.Test.YtgbidbhknffdoaaGreatDoorQNums
import Derived.Test.YtgbidbhknffdoaaGreatDoorQDec
import Derived.Test.YtgbidbhknffdoaaGreatDoorJ1
import Derived.Test.YtgbidbhknffdoaaGreatDoorJOrderTexts3
namespace Go.Proofs.YtgbidbhknffdoaaGreatDoor
open Go Go.RowKit P Go.Proofs.YtgbidbhknffdoaaGreatDoorW.PrintWords Go.Proofs.YtgbidbhknffdoaaGreatDoorW.PrintLast Go.Proofs.YtgbidbhknffdoaaGreatDoorW.PrintMore

theorem ba_len (s : ByteArray) : s.data.toList.length = s.size := Array.length_toList
theorem bt_get (s : ByteArray) (i : Nat) (h : i < s.size) : bt s (i : Int) = ((s.data.toList[i]'(by rw [ba_len]; exact h)).toNat : Int) := by
  unfold bt
  simp only [Int.toNat_natCast, h, dif_pos]
  rfl
theorem rdOf_at {α : Type} (d : α) (l : List α) (i : Nat) (h : i < l.length) : rdOf d l (i : Int) = l[i] := by
  unfold rdOf; simp [List.getD_eq_getElem?_getD, List.getElem?_eq_getElem h]

/-- A byte of a size. -/
def sizeB (c : UInt8) : Bool := decide ((65 ≤ c.toNat ∧ c.toNat ≤ 90) ∨ (48 ≤ c.toNat ∧ c.toNat ≤ 57))
theorem sizeB_iff {c : UInt8} : sizeB c = true ↔ (65 ≤ c.toNat ∧ c.toNat ≤ 90) ∨ (48 ≤ c.toNat ∧ c.toNat ≤ 57) := by unfold sizeB; exact decide_eq_true_iff
def sizedS (s : ByteArray) : Bool := decide (1 ≤ s.size ∧ s.size ≤ 8) && s.data.toList.all sizeB
theorem chart_sized_ev (s : ByteArray) (hb : s.size ≤ 1000000000000) : Ev (fun k => chart_sized.f k s) (sizedS s) := by
  unfold chart_sized.f sizedS
  have bad : ∀ q : Bool, q = true → Ev (fun k => chart_sized.j0 k s q) false := by
    rintro q rfl
    refine Ev.succ ?_
    simp only [chart_sized.j0]
    exact Ev.pos trivial (Ev.pure _)
  by_cases h1 : (s.size : Int) < 1
  · rw [decide_eq_false (p := 1 ≤ s.size ∧ s.size ≤ 8) (by omega), Bool.false_and]
    exact Ev.pos h1 (bad _ rfl)
  · refine Ev.neg h1 ?_
    by_cases h8 : (s.size : Int) > 8
    · rw [decide_eq_false (p := 1 ≤ s.size ∧ s.size ≤ 8) (by omega), Bool.false_and]
      exact bad _ (by simpa using h8)
    · rw [decide_eq_true (p := 1 ≤ s.size ∧ s.size ≤ 8) (by omega), Bool.true_and]
      refine Ev.succ ?_
      simp only [chart_sized.j0]
      refine Ev.neg (by simpa using h8) ?_
      have key : ∀ (m i : Nat), s.size - i = m → i ≤ s.size → Ev (fun k => chart_sized.l0 k s (s.size : Int) (i : Int)) ((s.data.toList.drop i).all sizeB) := by
        intro m
        induction m with
        | zero =>
          intro i hm hi
          refine Ev.succ ?_
          simp only [chart_sized.l0]
          refine Ev.neg (by omega) ?_
          rw [List.drop_eq_nil_of_le (by rw [ba_len]; omega)]
          exact Ev.pure _
        | succ m ih =>
          intro i hm hi
          have hi1 : i < s.size := by omega
          have hi2 : i < s.data.toList.length := by rw [ba_len]; exact hi1
          refine Ev.succ ?_
          simp only [chart_sized.l0]
          refine Ev.pos (by omega) (Ev.pos (by omega) (Ev.pos (by omega) ?_))
          rw [bt_get s i hi1, List.drop_eq_getElem_cons hi2, List.all_cons]
          generalize s.data.toList[i] = c
          have fin : ∀ q : Bool, (q = true ↔ ¬ sizeB c = true) → Ev (fun k => chart_sized.j2 k s (s.size : Int) (i : Int) q) (sizeB c && (s.data.toList.drop (i + 1)).all sizeB) := by
            intro q hq
            refine Ev.succ ?_
            simp only [chart_sized.j2]
            by_cases hc : sizeB c = true
            · refine Ev.neg (fun h => hq.1 h hc) ?_
              rw [wrap_succ (by omega), hc, Bool.true_and]
              exact ih (i + 1) (by omega) (by omega)
            · refine Ev.pos (hq.2 hc) ?_
              rw [Bool.eq_false_iff.2 hc, Bool.false_and]
              exact Ev.pure _
          by_cases a1 : (c.toNat : Int) < 65
          · refine Ev.pos a1 ?_
            by_cases a2 : (c.toNat : Int) < 48
            · exact Ev.pos a2 (fin _ (by rw [sizeB_iff]; simp; omega))
            · exact Ev.neg a2 (fin _ (by rw [sizeB_iff]; simp; omega))
          · refine Ev.neg a1 ?_
            by_cases a3 : (c.toNat : Int) > 90
            · refine Ev.pos a3 ?_
              by_cases a2 : (c.toNat : Int) < 48
              · exact Ev.pos a2 (fin _ (by rw [sizeB_iff]; simp; omega))
              · exact Ev.neg a2 (fin _ (by rw [sizeB_iff]; simp; omega))
            · exact Ev.neg a3 (fin _ (by rw [sizeB_iff]; simp; omega))
      have := key s.size 0 rfl (by omega)
      simpa using this
theorem sized_ev (s : ByteArray) (hb : s.size ≤ 1000000000000) : Ev (fun k => order_sized.f k s) (sizedS s) := by
  unfold order_sized.f
  exact Ev.pos (by unfold maxLen; omega) (chart_sized_ev s hb)
theorem rsize_ev (s : ByteArray) (hb : s.size ≤ 1000000000000) : Ev (fun k => garmentref18_Size.f k s) (sizedS s) := by
  unfold garmentref18_Size.f sizedS
  have bad : ∀ q : Bool, q = true → Ev (fun k => garmentref18_Size.j0 k s q) false := by
    rintro q rfl
    refine Ev.succ ?_
    simp only [garmentref18_Size.j0]
    exact Ev.pos trivial (Ev.pure _)
  have hnil : s.toList = [] ↔ s.size = 0 := by rw [ba_toList, ← ba_len, List.length_eq_zero_iff]
  by_cases h1 : s.toList = []
  · have := hnil.1 h1
    rw [decide_eq_false (p := 1 ≤ s.size ∧ s.size ≤ 8) (by omega), Bool.false_and]
    exact Ev.pos h1 (bad _ rfl)
  · have h0 : s.size ≠ 0 := fun h => h1 (hnil.2 h)
    refine Ev.neg h1 ?_
    by_cases h8 : (s.size : Int) > 8
    · rw [decide_eq_false (p := 1 ≤ s.size ∧ s.size ≤ 8) (by omega), Bool.false_and]
      exact bad _ (by simpa using h8)
    · rw [decide_eq_true (p := 1 ≤ s.size ∧ s.size ≤ 8) (by omega), Bool.true_and]
      refine Ev.succ ?_
      simp only [garmentref18_Size.j0]
      refine Ev.neg (by simpa using h8) ?_
      have key : ∀ (m i : Nat), s.size - i = m → i ≤ s.size → Ev (fun k => garmentref18_Size.l0 k s (i : Int)) ((s.data.toList.drop i).all sizeB) := by
        intro m
        induction m with
        | zero =>
          intro i hm hi
          refine Ev.succ ?_
          simp only [garmentref18_Size.l0]
          refine Ev.neg (by omega) ?_
          rw [List.drop_eq_nil_of_le (by rw [ba_len]; omega)]
          exact Ev.pure _
        | succ m ih =>
          intro i hm hi
          have hi1 : i < s.size := by omega
          have hi2 : i < s.data.toList.length := by rw [ba_len]; exact hi1
          refine Ev.succ ?_
          simp only [garmentref18_Size.l0]
          refine Ev.pos (by omega) (Ev.pos (by omega) ?_)
          rw [bt_get s i hi1, List.drop_eq_getElem_cons hi2, List.all_cons]
          generalize s.data.toList[i] = c
          have fin : ∀ q : Bool, (q = true ↔ ¬ sizeB c = true) → Ev (fun k => garmentref18_Size.j2 k s (i : Int) q) (sizeB c && (s.data.toList.drop (i + 1)).all sizeB) := by
            intro q hq
            refine Ev.succ ?_
            simp only [garmentref18_Size.j2]
            by_cases hc : sizeB c = true
            · refine Ev.neg (fun h => hq.1 h hc) ?_
              rw [wrap_succ (by omega), hc, Bool.true_and]
              exact ih (i + 1) (by omega) (by omega)
            · refine Ev.pos (hq.2 hc) ?_
              rw [Bool.eq_false_iff.2 hc, Bool.false_and]
              exact Ev.pure _
          by_cases a1 : (c.toNat : Int) ≥ 65
          · refine Ev.pos a1 ?_
            by_cases a2 : (c.toNat : Int) ≤ 90
            · exact Ev.pos a2 (fin _ (by rw [sizeB_iff]; simp; omega))
            · refine Ev.neg a2 ?_
              by_cases a3 : (c.toNat : Int) ≥ 48
              · exact Ev.pos a3 (fin _ (by rw [sizeB_iff]; simp; omega))
              · exact Ev.neg a3 (fin _ (by rw [sizeB_iff]; simp; omega))
          · refine Ev.neg a1 ?_
            by_cases a3 : (c.toNat : Int) ≥ 48
            · exact Ev.pos a3 (fin _ (by rw [sizeB_iff]; simp; omega))
            · exact Ev.neg a3 (fin _ (by rw [sizeB_iff]; simp; omega))
      have := key s.size 0 rfl (by omega)
      simpa using this

/-- No size that is none: as ContainsFunc says it. -/
theorem contains_ev (l : List ByteArray) (hb : ∀ s ∈ l, s.size ≤ 1000000000000) : Ev (fun k => slices_ContainsFunc_string_string_garment_order_Print_1.f k l) (l.any fun s => !sizedS s) := by
  have all : ∃ k0, ∀ k, k0 ≤ k → ∀ s ∈ l, order_sized.f k s = some (sizedS s) := by
    induction l with
    | nil => exact ⟨0, fun _ _ s hs => by cases hs⟩
    | cons x r ih =>
      obtain ⟨k0, h0⟩ := ih (fun s hs => hb s (by simp [hs]))
      obtain ⟨k1, h1⟩ := sized_ev x (hb x (by simp))
      refine ⟨max k0 k1, fun k hk s hs => ?_⟩
      rcases List.mem_cons.1 hs with rfl | hs
      · exact h1 k (by omega)
      · exact h0 k (by omega) s hs
  obtain ⟨k0, h0⟩ := all
  refine ⟨k0, fun k hk => ?_⟩
  have h := h0 k hk
  show slices_ContainsFunc_string_string_garment_order_Print_1.f k l = _
  unfold slices_ContainsFunc_string_string_garment_order_Print_1.f
  rw [if_pos (by rw [List.all_eq_true]; intro s hs; rw [h s hs]; rfl)]
  congr 1
  clear hb h0
  induction l with
  | nil => rfl
  | cons x r ih =>
    rw [List.any_cons, List.any_cons, h x (by simp), ih (fun s hs => h s (by simp [hs]))]
    rfl

/-- The index of the first string that is equal, or -1. -/
def findS (l : List ByteArray) (s : ByteArray) : Int := if s ∈ l then (l.idxOf s : Int) else -1
theorem findS_cons (x : ByteArray) (l : List ByteArray) (s : ByteArray) : findS (x :: l) s = if x = s then 0 else if findS l s < 0 then -1 else findS l s + 1 := by
  unfold findS
  by_cases h : x = s
  · subst h
    rw [if_pos (by simp), if_pos rfl, List.idxOf_cons_self]; rfl
  · rw [if_neg h]
    by_cases hm : s ∈ l
    · rw [if_pos (by simp [hm]), if_pos hm, if_neg (by omega), List.idxOf_cons]
      have e : (x == s) = false := by rw [ba_beq]; exact decide_eq_false h
      rw [e]
      simp
    · rw [if_neg (by simp [hm]; exact fun e => h e.symm), if_neg hm]
      rfl
theorem toList_eq_iff (a b : ByteArray) : a.toList = b.toList ↔ a = b := by
  rw [ba_toList, ba_toList]
  exact ⟨ba_ext, fun h => by rw [h]⟩
theorem index_ev (l : List ByteArray) (s : ByteArray) (hb : l.length ≤ 1000000000000) : Ev (fun k => slices_Index_string_string.f k l s) (findS l s) := by
  unfold slices_Index_string_string.f
  have key : ∀ (m i : Nat), l.length - i = m → i ≤ l.length → Ev (fun k => slices_Index_string_string.l0 k l s (l.length : Int) (i : Int)) (if findS (l.drop i) s < 0 then -1 else (i : Int) + findS (l.drop i) s) := by
    intro m
    induction m with
    | zero =>
      intro i hm hi
      refine Ev.succ ?_
      simp only [slices_Index_string_string.l0]
      refine Ev.neg (by omega) ?_
      rw [List.drop_eq_nil_of_le (by omega)]
      exact Ev.pure _
    | succ m ih =>
      intro i hm hi
      have hi1 : i < l.length := by omega
      refine Ev.succ ?_
      simp only [slices_Index_string_string.l0]
      refine Ev.pos (by omega) (Ev.pos (by omega) (Ev.pos (by omega) ?_))
      rw [rdOf_at _ l i hi1, List.drop_eq_getElem_cons hi1, findS_cons]
      by_cases he : l[i] = s
      · refine Ev.pos (by rw [he]) ?_
        rw [if_pos he, if_neg (by omega)]
        have : (i : Int) + 0 = i := by omega
        rw [this]
        exact Ev.pure _
      · refine Ev.neg (fun h => he ((toList_eq_iff _ _).1 h).symm) ?_
        rw [if_neg he, wrap_succ (by omega)]
        have := ih (i + 1) (by omega) (by omega)
        by_cases hf : findS (l.drop (i + 1)) s < 0
        · rw [if_pos hf] at this ⊢
          rw [if_pos (by omega)]
          exact this
        · rw [if_neg hf] at this ⊢
          rw [if_neg (by omega)]
          have e : (i : Int) + (findS (l.drop (i + 1)) s + 1) = ((i + 1 : Nat) : Int) + findS (l.drop (i + 1)) s := by push_cast; omega
          rw [e]
          exact this
  have := key l.length 0 rfl (by omega)
  have hlow : -1 ≤ findS l s := by unfold findS; split <;> omega
  have e : (if findS (l.drop 0) s < 0 then -1 else ((0 : Nat) : Int) + findS (l.drop 0) s) = findS l s := by
    rw [List.drop_zero]; split <;> omega
  rw [e] at this
  exact this
theorem find_ev (l : List ByteArray) (s : ByteArray) (hb : l.length ≤ 1000000000000) : Ev (fun k => garmentref35_find.f k l s) (findS l s) := by
  unfold garmentref35_find.f
  have key : ∀ (m i : Nat), l.length - i = m → i ≤ l.length → Ev (fun k => garmentref35_find.l0 k l s (i : Int)) (if findS (l.drop i) s < 0 then -1 else (i : Int) + findS (l.drop i) s) := by
    intro m
    induction m with
    | zero =>
      intro i hm hi
      refine Ev.succ ?_
      simp only [garmentref35_find.l0]
      refine Ev.neg (by omega) ?_
      rw [List.drop_eq_nil_of_le (by omega)]
      exact Ev.pure _
    | succ m ih =>
      intro i hm hi
      have hi1 : i < l.length := by omega
      refine Ev.succ ?_
      simp only [garmentref35_find.l0]
      refine Ev.pos (by omega) (Ev.pos (by omega) ?_)
      rw [rdOf_at _ l i hi1, List.drop_eq_getElem_cons hi1, findS_cons]
      by_cases he : l[i] = s
      · refine Ev.pos (by rw [he]) ?_
        rw [if_pos he, if_neg (by omega)]
        have : (i : Int) + 0 = i := by omega
        rw [this]
        exact Ev.pure _
      · refine Ev.neg (fun h => he ((toList_eq_iff _ _).1 h)) ?_
        rw [if_neg he, wrap_succ (by omega)]
        have := ih (i + 1) (by omega) (by omega)
        by_cases hf : findS (l.drop (i + 1)) s < 0
        · rw [if_pos hf] at this ⊢
          rw [if_pos (by omega)]
          exact this
        · rw [if_neg hf] at this ⊢
          rw [if_neg (by omega)]
          have e : (i : Int) + (findS (l.drop (i + 1)) s + 1) = ((i + 1 : Nat) : Int) + findS (l.drop (i + 1)) s := by push_cast; omega
          rw [e]
          exact this
  have := key l.length 0 rfl (by omega)
  have hlow : -1 ≤ findS l s := by unfold findS; split <;> omega
  have e : (if findS (l.drop 0) s < 0 then -1 else ((0 : Nat) : Int) + findS (l.drop 0) s) = findS l s := by
    rw [List.drop_zero]; split <;> omega
  rw [e] at this
  exact this
theorem has_ev (l : List ByteArray) (s : ByteArray) (hb : l.length ≤ 1000000000000) : Ev (fun k => slices_Contains_string_string.f k l s) (decide (s ∈ l)) := by
  unfold slices_Contains_string_string.f
  refine Ev.bind (index_ev l s hb) ?_
  have e : decide (findS l s ≥ 0) = decide (s ∈ l) := by
    unfold findS
    by_cases h : s ∈ l
    · rw [if_pos h, decide_eq_true h]; simp
    · rw [if_neg h, decide_eq_false h]; rfl
  rw [e]
  exact Ev.pure _

theorem short_ev (l : List ByteArray) (hb : l.length ≤ 1000000000000000) : ∃ q, Ev (fun k => garmentref35_Short.f k l) q ∧ (q = true → l.length ≤ 20 ∧ ∀ s ∈ l, s.size ≤ 100) := by
  unfold garmentref35_Short.f
  have key : ∀ (m i : Nat), l.length - i = m → i ≤ l.length → i ≤ 20 → ∃ q, Ev (fun k => garmentref35_Short.l0 k l (i : Int)) q ∧ (q = true → l.length ≤ 20 ∧ ∀ s ∈ l.drop i, s.size ≤ 100) := by
    intro m
    induction m with
    | zero =>
      intro i hm hi h20
      refine ⟨decide (l.length ≤ 20), ?_, fun h => ⟨of_decide_eq_true h, fun s hs => ?_⟩⟩
      · refine Ev.succ ?_
        simp only [garmentref35_Short.l0]
        refine Ev.neg (by omega) ?_
        refine Ev.succ ?_
        simp only [garmentref35_Short.j1]
        refine Ev.neg (by simp) ?_
        have e : decide ((l.length : Int) ≤ 20) = decide (l.length ≤ 20) := by rw [Bool.eq_iff_iff]; simp; omega
        rw [e]
        exact Ev.pure _
      · rw [List.drop_eq_nil_of_le (by omega)] at hs; cases hs
    | succ m ih =>
      intro i hm hi h20
      have hi1 : i < l.length := by omega
      by_cases hi20 : i < 20
      · by_cases hc : (l[i].size : Int) > 100
        · refine ⟨false, ?_, fun h => by cases h⟩
          refine Ev.succ ?_
          simp only [garmentref35_Short.l0]
          refine Ev.pos (by omega) (Ev.succ ?_)
          simp only [garmentref35_Short.j1]
          rw [rdOf_at _ l i hi1]
          exact Ev.pos (by simp; omega) (Ev.pos (by omega) (Ev.pos (by omega) (Ev.pos hc (Ev.pure _))))
        · obtain ⟨q, h1, h2⟩ := ih (i + 1) (by omega) (by omega) (by omega)
          refine ⟨q, ?_, fun h => ⟨(h2 h).1, fun s hs => ?_⟩⟩
          · refine Ev.succ ?_
            simp only [garmentref35_Short.l0]
            refine Ev.pos (by omega) (Ev.succ ?_)
            simp only [garmentref35_Short.j1]
            rw [rdOf_at _ l i hi1, wrap_succ (by omega)]
            exact Ev.pos (by simp; omega) (Ev.pos (by omega) (Ev.pos (by omega) (Ev.neg hc h1)))
          · rw [List.drop_eq_getElem_cons hi1] at hs
            rcases List.mem_cons.1 hs with rfl | hs
            · omega
            · exact (h2 h).2 s hs
      · refine ⟨false, ?_, fun h => by cases h⟩
        refine Ev.succ ?_
        simp only [garmentref35_Short.l0]
        refine Ev.pos (by omega) (Ev.succ ?_)
        simp only [garmentref35_Short.j1]
        refine Ev.neg (by simp; omega) ?_
        have e : decide ((l.length : Int) ≤ 20) = false := by simp; omega
        rw [e]
        exact Ev.pure _
  obtain ⟨q, h1, h2⟩ := key l.length 0 rfl (by omega) (by omega)
  exact ⟨q, h1, fun h => by simpa using h2 h⟩
end Go.Proofs.YtgbidbhknffdoaaGreatDoor
