/- What Print and its reference compute. -/
import Derived.Test.YtgbidbhknffdoaaGreatDoorQOrderTextsWords
namespace Go.Proofs.YtgbidbhknffdoaaGreatDoor
set_option linter.unusedVariables false
set_option linter.unusedSimpArgs false
open Go Go.RowKit P Go.Proofs.YtgbidbhknffdoaaGreatDoorW.PrintWords Go.Proofs.YtgbidbhknffdoaaGreatDoorW.PrintLast Go.Proofs.YtgbidbhknffdoaaGreatDoorW.PrintMore

def itemB (s : ByteArray) (n : Int) : ByteArray := s ++ (⟨#[32]⟩ : ByteArray) ++ ⟨(itoaL n).toArray⟩
def itemsS : List Int → List ByteArray → List ByteArray
  | c :: cs, s :: ss => if c > 0 then itemB s c :: itemsS cs ss else itemsS cs ss
  | _, _ => []
def accT (l : List ByteArray) : ByteArray := ⟨(Lib.join (l.map (·.data.toList)) [44, 32]).toArray⟩
def noneB : ByteArray := ⟨#[110, 111, 110, 101]⟩
def textS (c : List Int) (s : List ByteArray) : ByteArray := if itemsS c s = [] then noneB else accT (itemsS c s)
def printS (c : List Int) (s : List ByteArray) : ByteArray × Int :=
  if c.length = s.length ∧ s.all sizedS = true then if s.length > 12 then (⟨#[]⟩, 5) else if c.all countB = true then if s.Nodup then (textS c s, 0) else (⟨#[]⟩, 7) else (⟨#[]⟩, 3) else (⟨#[]⟩, 1)

theorem ba_app (a b : ByteArray) : (a ++ b).data.toList = a.data.toList ++ b.data.toList := by
  simp
theorem itemB_data (s : ByteArray) (n : Int) : (itemB s n).data.toList = s.data.toList ++ 32 :: itoaL n := by
  unfold itemB
  rw [ba_app, ba_app]
  simp
theorem itemsS_snoc : ∀ (c : List Int) (s : List ByteArray) (x : Int) (y : ByteArray), c.length = s.length → itemsS (c ++ [x]) (s ++ [y]) = itemsS c s ++ (if x > 0 then [itemB y x] else [])
  | [], [], x, y, _ => by simp only [List.nil_append, itemsS]
  | c :: cs, s :: ss, x, y, h => by
    simp only [List.cons_append, itemsS]
    rw [itemsS_snoc cs ss x y (by simpa using h)]
    split <;> simp
theorem itemsS_take (c : List Int) (s : List ByteArray) (h : c.length = s.length) (i : Nat) (hi : i < c.length) :
    itemsS (c.take (i + 1)) (s.take (i + 1)) = itemsS (c.take i) (s.take i) ++ (if c[i] > 0 then [itemB (s[i]'(by omega)) c[i]] else []) := by
  rw [List.take_succ_eq_append_getElem hi, List.take_succ_eq_append_getElem (by omega : i < s.length), itemsS_snoc _ _ _ _ (by simp; omega)]
theorem itemsS_length : ∀ (c : List Int) (s : List ByteArray), (itemsS c s).length ≤ c.length
  | [], s => by simp [itemsS]
  | c :: cs, [] => by simp [itemsS]
  | c :: cs, s :: ss => by
    have := itemsS_length cs ss
    simp only [itemsS]; split <;> simp <;> omega
theorem itemsS_size : ∀ (c : List Int) (s : List ByteArray), (∀ x ∈ s, x.size ≤ 8) → ∀ y ∈ itemsS c s, y.data.toList.length ≤ 30 ∧ 1 ≤ y.data.toList.length
  | [], s, _, y, hy => by simp [itemsS] at hy
  | c :: cs, [], _, y, hy => by simp [itemsS] at hy
  | c :: cs, s :: ss, h, y, hy => by
    simp only [itemsS] at hy
    have rest := itemsS_size cs ss (fun x hx => h x (by simp [hx])) y
    split at hy
    · rcases List.mem_cons.1 hy with rfl | hy
      · rw [itemB_data]
        have h1 := h s (by simp)
        rw [← ba_len] at h1
        have h2 := itoaL_length c
        simp only [List.length_append, List.length_cons]
        omega
      · exact rest hy
    · exact rest hy
theorem join_len (sep : List UInt8) (M : Nat) : ∀ (l : List (List UInt8)), (∀ x ∈ l, x.length ≤ M) → (Lib.join l sep).length ≤ (M + sep.length) * l.length
  | [], _ => by simp [Lib.join_nil]
  | [x], h => by
    have := h x (by simp)
    rw [Lib.join_one]; simp; omega
  | x :: y :: r, h => by
    have h1 := h x (by simp)
    have h2 := join_len sep M (y :: r) (fun z hz => h z (by simp [hz]))
    rw [joinL_cons sep x (l := y :: r) (by simp)]
    simp only [List.length_append, List.length_cons] at h2 ⊢
    rw [Nat.mul_succ]
    omega
theorem accT_size (l : List ByteArray) (h : ∀ y ∈ l, y.data.toList.length ≤ 30) : (accT l).size ≤ 32 * l.length := by
  have := join_len [44, 32] 30 (l.map (·.data.toList)) (fun x hx => by
    obtain ⟨y, hy, rfl⟩ := List.mem_map.1 hx
    exact h y hy)
  rw [← ba_len]
  unfold accT
  simpa using this
theorem accT_nil : accT [] = ⟨#[]⟩ := rfl
theorem accT_ne {l : List ByteArray} (hl : l ≠ []) (h : ∀ y ∈ l, 1 ≤ y.data.toList.length) : accT l ≠ ⟨#[]⟩ := by
  intro e
  have e2 := congrArg (fun b : ByteArray => b.data.toList) e
  unfold accT at e2
  simp only at e2
  cases l with
  | nil => exact hl rfl
  | cons x r =>
    rw [List.map_cons, Lib.join_cons] at e2
    have := h x (by simp)
    have e3 := congrArg List.length e2
    simp at e3
    have : x.data.toList.length = 0 := by simp [e3.1]
    omega
theorem accT_snoc {l : List ByteArray} (hl : l ≠ []) (x : ByteArray) : accT (l ++ [x]) = accT l ++ (⟨#[44, 32]⟩ : ByteArray) ++ x := by
  apply ba_ext
  rw [ba_app, ba_app]
  unfold accT
  simp only [List.map_append, List.map_cons, List.map_nil]
  rw [join_snoc _ _ (by simpa using hl)]
theorem accT_one (x : ByteArray) : accT [x] = x := by
  apply ba_ext
  unfold accT
  simp only [List.map_cons, List.map_nil]
  rw [Lib.join_one]
theorem sized_le {s : ByteArray} (h : sizedS s = true) : 1 ≤ s.size ∧ s.size ≤ 8 := by
  unfold sizedS at h
  simp only [Bool.and_eq_true, decide_eq_true_eq] at h
  exact h.1
theorem dup_at (s : List ByteArray) (i : Nat) (hi : i < s.length) : s[i] ∈ s.take i ↔ ∃ j, ∃ h : j < i, s[j]'(by omega) = s[i] := by
  rw [List.mem_take_iff_getElem]
  constructor
  · rintro ⟨j, hj, e⟩; exact ⟨j, by omega, e⟩
  · rintro ⟨j, hj, e⟩; exact ⟨j, by omega, e⟩
theorem nodup_iff (s : List ByteArray) : s.Nodup ↔ ∀ i (hi : i < s.length), s[i] ∉ s.take i := by
  unfold List.Nodup
  rw [List.pairwise_iff_getElem]
  constructor
  · intro h i hi hm
    obtain ⟨j, hj, e⟩ := (dup_at s i hi).1 hm
    exact h j i (by omega) hi hj e
  · intro h i j hi hj hij e
    exact h j hj ((dup_at s j hj).2 ⟨i, hij, e⟩)

theorem print_ev (c : List Int) (s : List ByteArray) (hc : c.length ≤ 20) (hs : s.length ≤ 20) (hz : ∀ x ∈ s, x.size ≤ 100) : Ev (fun k => order_Print.f k c s) (printS c s) := by
  unfold order_Print.f printS
  have bad : ∀ q : Bool, q = true → Ev (fun k => order_Print.j0 k c s q) (⟨#[]⟩, 1) := by
    rintro q rfl
    refine Ev.succ ?_
    simp only [order_Print.j0]
    exact Ev.pos trivial (Ev.pure _)
  by_cases hl : c.length = s.length
  · refine Ev.pos (by omega) (Ev.bind (contains_ev s (fun x hx => by have := hz x hx; omega)) ?_)
    by_cases ha : s.all sizedS = true
    · have hany : (s.any fun x => !sizedS x) = false := by
        rw [List.any_eq_false]
        intro x hx
        simp [List.all_eq_true.1 ha x hx]
      rw [hany, if_pos ⟨hl, ha⟩]
      refine Ev.succ ?_
      simp only [order_Print.j0]
      refine Ev.neg (by simp) ?_
      by_cases h12 : s.length > 12
      · rw [if_pos h12]; exact Ev.pos (by omega) (Ev.pure _)
      · rw [if_neg h12]
        refine Ev.neg (by omega) ?_
        simp only [counts_f, Option.bind_some]
        by_cases hcc : c.all countB = true
        · rw [if_pos hcc]
          refine Ev.pos hcc ?_
          have h8 : ∀ x ∈ s, x.size ≤ 8 := fun x hx => (sized_le (List.all_eq_true.1 ha x hx)).2
          have h8t : ∀ i, ∀ x ∈ s.take i, x.size ≤ 8 := fun i x hx => h8 x (List.mem_of_mem_take hx)
          have key : ∀ (m i : Nat), s.length - i = m → i ≤ s.length → (∀ j (hj : j < s.length), j < i → s[j] ∉ s.take j) → Ev (fun k => order_Print.l0 k s (itemsS (c.take i) (s.take i)) c (c.length : Int) (i : Int)) (if s.Nodup then (textS c s, 0) else (⟨#[]⟩, 7)) := by
            intro m
            induction m with
            | zero =>
              intro i hm hi hj
              refine Ev.succ ?_
              simp only [order_Print.l0]
              refine Ev.neg (by omega) ?_
              have hnd : s.Nodup := (nodup_iff s).2 fun j h => hj j h (by omega)
              rw [if_pos hnd, List.take_of_length_le (by omega), List.take_of_length_le (by omega)]
              unfold textS
              by_cases hn : itemsS c s = []
              · rw [if_pos hn, hn]; exact Ev.pos rfl (Ev.pure _)
              · rw [if_neg hn]
                refine Ev.neg (by intro h; exact hn (List.length_eq_zero_iff.1 (by omega))) ?_
                have hil := itemsS_length c s
                have hjl := join_len [44, 32] 30 ((itemsS c s).map (·.data.toList)) (fun x hx => by
                  obtain ⟨y, hy, rfl⟩ := List.mem_map.1 hx
                  exact (itemsS_size c s h8 y hy).1)
                simp only [List.length_map, List.length_cons, List.length_nil] at hjl
                have hf : strings_Join.f (itemsS c s) (⟨#[44, 32]⟩ : ByteArray) = some (accT (itemsS c s)) := by
                  unfold strings_Join.f
                  rw [if_pos ⟨by omega, by show (Lib.join ((itemsS c s).map (·.data.toList)) [44, 32]).length ≤ _; omega⟩]
                  rfl
                simp only [hf, Option.bind_some]
                exact Ev.pure _
            | succ m ih =>
              intro i hm hi hj
              have hi1 : i < s.length := by omega
              have hi2 : i < c.length := by omega
              have hsi := h8 _ (List.getElem_mem hi1)
              refine Ev.succ ?_
              simp only [order_Print.l0]
              refine Ev.pos (by omega) (Ev.pos (by omega) (Ev.pos (by omega) (Ev.pos (by omega) (Ev.pos (by omega) ?_))))
              rw [rdOf_at _ s i hi1, rd_at c i hi2]
              refine Ev.bind (has_ev _ _ (by simp; omega)) ?_
              by_cases hd : s[i] ∈ s.take ((i : Int)).toNat
              · have hnd : ¬ s.Nodup := fun h => (nodup_iff s).1 h i hi1 hd
                rw [if_neg hnd]
                exact Ev.pos (by simpa using hd) (Ev.pure _)
              · refine Ev.neg (by simpa using hd) ?_
                have hcb := all_at hcc i hi2
                have next := ih (i + 1) (by omega) (by omega) (fun j hjl hji => by
                  by_cases e : j = i
                  · subst e; exact hd
                  · exact hj j hjl (by omega))
                rw [itemsS_take c s hl i hi2] at next
                have hil := itemsS_length (c.take i) (s.take i)
                simp only [List.length_take] at hil
                by_cases hp : c[i] > 0
                · rw [if_pos hp] at next
                  have hit : strconv_Itoa_27.f c[i] = some ⟨(itoaL c[i]).toArray⟩ := by
                    unfold strconv_Itoa_27.f; rw [if_pos (by omega)]
                  have hil2 := itoaL_length c[i]
                  have hsz : (⟨(itoaL c[i]).toArray⟩ : ByteArray).size ≤ 21 := by rw [← ba_len]; simpa using hil2
                  simp only [hit, Option.bind_some]
                  refine Ev.pos hp (Ev.pos (by omega) (Ev.pos (by omega) (Ev.pos (by omega) ?_)))
                  rw [wrap_succ (by omega)]
                  exact next
                · rw [if_neg hp, List.append_nil] at next
                  refine Ev.neg hp ?_
                  rw [wrap_succ (by omega)]
                  exact next
          have := key s.length 0 rfl (by omega) (fun j _ h => by omega)
          simpa [itemsS] using this
        · rw [if_neg hcc]; exact Ev.neg hcc (Ev.pure _)
    · rw [if_neg (fun h => ha h.2)]
      refine bad _ ?_
      rw [List.any_eq_true]
      have : ∃ x ∈ s, sizedS x = false := by
        apply Classical.byContradiction
        intro h
        exact ha (List.all_eq_true.2 fun x hx => by
          cases hsx : sizedS x with
          | true => rfl
          | false => exact absurd ⟨x, hx, hsx⟩ h)
      obtain ⟨x, hx, hsx⟩ := this
      exact ⟨x, hx, by rw [hsx]; rfl⟩
  · rw [if_neg (fun h => hl h.1)]
    exact Ev.neg (by omega) (bad _ rfl)

theorem idx_le : ∀ (l : List ByteArray) (j : Nat) (h : j < l.length), l.idxOf l[j] ≤ j
  | [], j, h => by simp at h
  | x :: l, 0, _ => by simp
  | x :: l, j + 1, h => by
    have ih := idx_le l j (by simpa using h)
    rw [List.getElem_cons_succ, List.idxOf_cons]
    cases hq : (x == l[j]'(by simpa using h)) with
    | true => simp
    | false => simp; exact ih
theorem find_lt (s : List ByteArray) (i : Nat) (hi : i < s.length) : findS s s[i] < (i : Int) ↔ s[i] ∈ s.take i := by
  unfold findS
  rw [if_pos (List.getElem_mem hi), dup_at s i hi]
  constructor
  · intro h
    have h1 : s.idxOf s[i] < s.length := List.idxOf_lt_length_iff.2 (List.getElem_mem hi)
    exact ⟨s.idxOf s[i], by omega, List.getElem_idxOf h1⟩
  · rintro ⟨j, hj, e⟩
    have h2 : s.idxOf s[i] ≤ j := by
      rw [← e]
      exact idx_le s j (by omega)
    omega
end Go.Proofs.YtgbidbhknffdoaaGreatDoor
