/- Printing and parsing orders undo each other. -/
import Derived.Test.YtgbidbhknffdoaaGreatDoorQOrderTextsParse
namespace Go.Proofs.YtgbidbhknffdoaaGreatDoor
set_option linter.unusedVariables false
set_option linter.unusedSimpArgs false
open Go Go.RowKit P Go.Proofs.YtgbidbhknffdoaaGreatDoorW.PrintWords Go.Proofs.YtgbidbhknffdoaaGreatDoorW.PrintLast Go.Proofs.YtgbidbhknffdoaaGreatDoorW.PrintMore

theorem dec_len : ∀ (k u : Nat), u < 10 ^ (k + 1) → (Lib.decDigits u).length ≤ k + 1 := by
  intro k
  induction k with
  | zero => intro u h; rw [Lib.decDigits_one (by simpa using h)]; simp
  | succ k ih =>
    intro u h
    by_cases h10 : u < 10
    · rw [Lib.decDigits_one h10]; simp
    · rw [Lib.decDigits, dif_neg h10]
      have hp : 10 ^ (k + 1 + 1) = 10 ^ (k + 1) * 10 := Nat.pow_succ ..
      have := ih (u / 10) (by omega)
      simp; omega
theorem numOk_dec {n : Nat} (h : n ≤ 1000) : numOk (itoaL (n : Int)) = true ∧ val (itoaL (n : Int)) = n := by
  rw [itoaL_nat n (by omega)]
  obtain ⟨h1, h2, h3, h4⟩ := dec_dig n
  have h5 := dec_len 3 n (by omega)
  refine ⟨numOk_iff.2 ⟨h3, by omega, h1, fun hh => ?_⟩, h2⟩
  rw [h4 hh, Lib.decDigits_one (by omega)]; rfl
theorem no_byte {s : ByteArray} (h : sizedS s = true) (b : UInt8) (hb : sizeB b = false) : b ∉ s.data.toList := by
  unfold sizedS at h
  simp only [Bool.and_eq_true] at h
  intro hm
  have := List.all_eq_true.1 h.2 b hm
  rw [hb] at this; cases this
theorem find_nodup {s : List ByteArray} (h : s.Nodup) (i : Nat) (hi : i < s.length) : findS s s[i] = (i : Int) := by
  have h1 := (nodup_iff s).1 h i hi
  have h2 : ¬ findS s s[i] < (i : Int) := fun hh => h1 ((find_lt s i hi).1 hh)
  have h3 := idx_le s i hi
  unfold findS at h2 ⊢
  rw [if_pos (List.getElem_mem hi)] at h2 ⊢
  omega
theorem itemP_item {s : List ByteArray} (hn : s.Nodup) (hs : ∀ x ∈ s, sizedS x = true) (i : Nat) (hi : i < s.length) (n : Int) (h0 : 0 < n) (h1 : n ≤ 1000) :
    itemP s (itemB s[i] n).data.toList = ((i : Int), n, 0) := by
  obtain ⟨m, rfl⟩ : ∃ m : Nat, n = m := ⟨n.toNat, by omega⟩
  have hsi := hs _ (List.getElem_mem hi)
  obtain ⟨e1, e2⟩ := numOk_dec (n := m) (by omega)
  rw [itemB_data]
  unfold itemP
  rw [cut_hit 32 _ _ (no_byte hsi 32 (by decide))]
  have hne : s[i].data.toList ≠ [] := by
    intro h
    have := (sized_le hsi).1
    rw [← ba_len, h] at this
    simp at this
  have eb : (⟨s[i].data.toList.toArray⟩ : ByteArray) = s[i] := ba_eta _
  simp only [eb, e2, find_nodup hn i hi]
  rw [if_pos ⟨trivial, e1, hne⟩, if_neg (by omega), if_neg (by omega)]
theorem item_44 {s : ByteArray} (hs : sizedS s = true) (n : Int) (h0 : 0 < n) (h1 : n ≤ 1000) : (44 : UInt8) ∉ (itemB s n).data.toList := by
  obtain ⟨m, rfl⟩ : ∃ m : Nat, n = m := ⟨n.toNat, by omega⟩
  rw [itemB_data, itoaL_nat m (by omega)]
  intro hm
  rcases List.mem_append.1 hm with hm | hm
  · exact no_byte hs 44 (by decide) hm
  · rcases List.mem_cons.1 hm with hm | hm
    · exact absurd hm (by decide)
    · have := List.all_eq_true.1 (dec_dig m).1 _ hm
      exact absurd this (by decide)
theorem items_44 : ∀ (c : List Int) (s : List ByteArray), c.all countB = true → (∀ x ∈ s, sizedS x = true) → ∀ y ∈ itemsS c s, (44 : UInt8) ∉ y.data.toList
  | [], s, _, _, y, hy => by simp [itemsS] at hy
  | c :: cs, [], _, _, y, hy => by simp [itemsS] at hy
  | c :: cs, s :: ss, hc, hs, y, hy => by
    simp only [List.all_cons, Bool.and_eq_true] at hc
    have hc1 := hc.1
    rw [countB_eq] at hc1
    have hc2 := of_decide_eq_true hc1
    have rest := items_44 cs ss hc.2 (fun x hx => hs x (by simp [hx])) y
    simp only [itemsS] at hy
    split at hy
    · rename_i hp
      rcases List.mem_cons.1 hy with rfl | hy
      · exact item_44 (hs s (by simp)) c hp hc2.2
      · exact rest hy
    · exact rest hy
theorem items_nil : ∀ (c : List Int) (s : List ByteArray), c.length = s.length → c.all countB = true → itemsS c s = [] → c = List.replicate s.length 0
  | [], [], _, _, _ => rfl
  | c :: cs, s :: ss, hl, hc, h => by
    simp only [List.all_cons, Bool.and_eq_true] at hc
    have hc1 := hc.1
    rw [countB_eq] at hc1
    have hc2 := of_decide_eq_true hc1
    simp only [itemsS] at h
    split at h
    · cases h
    · rename_i hp
      have e := items_nil cs ss (by simpa using hl) hc.2 h
      have e0 : c = 0 := by omega
      rw [e0, e]
      rfl
theorem acc_32 {l : List ByteArray} (hl : l ≠ []) (h : ∀ y ∈ l, (32 : UInt8) ∈ y.data.toList) : accT l ≠ noneB := by
  intro e
  have e2 := congrArg (fun b : ByteArray => b.data.toList) e
  unfold accT noneB at e2
  simp only at e2
  cases l with
  | nil => exact hl rfl
  | cons x r =>
    rw [List.map_cons, Lib.join_cons] at e2
    have hm : (32 : UInt8) ∈ x.data.toList ++ Lib.joinTail [44, 32] (r.map (·.data.toList)) := List.mem_append_left _ (h x (by simp))
    rw [e2] at hm
    exact absurd hm (by decide)
theorem items_32 : ∀ (c : List Int) (s : List ByteArray), ∀ y ∈ itemsS c s, (32 : UInt8) ∈ y.data.toList
  | [], s, y, hy => by simp [itemsS] at hy
  | c :: cs, [], y, hy => by simp [itemsS] at hy
  | c :: cs, s :: ss, y, hy => by
    simp only [itemsS] at hy
    split at hy
    · rcases List.mem_cons.1 hy with rfl | hy
      · rw [itemB_data]; simp
      · exact items_32 cs ss y hy
    · exact items_32 cs ss y hy
theorem parse_items (c : List Int) (s : List ByteArray) (hl : c.length = s.length) (hc : c.all countB = true) (hs : ∀ x ∈ s, sizedS x = true) (hn : s.Nodup) :
    ∀ (m i : Nat) (last : Int), s.length - i = m → i ≤ s.length → last < i → parseL s (c.take i ++ List.replicate (s.length - i) 0) last ((itemsS (c.drop i) (s.drop i)).map (·.data.toList)) = (c, 0) := by
  intro m
  induction m with
  | zero =>
    intro i last hm hi hla
    rw [List.drop_eq_nil_of_le (by omega), List.take_of_length_le (by omega), hm]
    simp [itemsS, parseL]
  | succ m ih =>
    intro i last hm hi hla
    have hi1 : i < s.length := by omega
    have hi2 : i < c.length := by omega
    have hcb := all_at hc i hi2
    rw [List.drop_eq_getElem_cons hi1, List.drop_eq_getElem_cons hi2]
    simp only [itemsS]
    have erep : List.replicate (s.length - i) (0 : Int) = 0 :: List.replicate (s.length - (i + 1)) 0 := by
      rw [show s.length - i = (s.length - (i + 1)) + 1 by omega]; rfl
    have etake : c.take (i + 1) = c.take i ++ [c[i]] := List.take_succ_eq_append_getElem hi2
    by_cases hp : c[i] > 0
    · rw [if_pos hp]
      simp only [List.map_cons, parseL]
      rw [itemP_item hn hs i hi1 c[i] hp hcb.2]
      simp only
      have hr : rd (c.take i ++ List.replicate (s.length - i) 0) (i : Int) = 0 := by
        rw [rd_at _ i (by simp; omega), List.getElem_append_right (by simp; omega)]
        simp
      rw [if_pos trivial, hr, if_neg (by omega), if_neg (by omega)]
      have e : (c.take i ++ List.replicate (s.length - i) 0).set ((i : Int)).toNat c[i] = c.take (i + 1) ++ List.replicate (s.length - (i + 1)) 0 := by
        rw [erep, etake, Int.toNat_natCast, List.set_append_right _ _ (by simp; omega)]
        have : i - (c.take i).length = 0 := by simp; omega
        rw [this, List.set_cons_zero, List.append_assoc]
        rfl
      rw [e]
      exact ih (i + 1) _ (by omega) (by omega) (by push_cast; omega)
    · rw [if_neg hp]
      have e0 : c[i] = 0 := by omega
      have := ih (i + 1) last (by omega) (by omega) (by push_cast; omega)
      rw [etake, e0] at this
      rw [erep]
      simpa using this
theorem round_trip (c : List Int) (s : List ByteArray) (hl : c.length = s.length) (h12 : s.length ≤ 12) (hc : c.all countB = true) (hs : ∀ x ∈ s, sizedS x = true) (hn : s.Nodup) : parseS (textS c s) s = (c, 0) := by
  unfold textS
  by_cases h0 : itemsS c s = []
  · rw [if_pos h0]
    unfold parseS
    have h4 : noneB.size = 4 := rfl
    rw [if_neg (by omega), if_pos rfl, ← items_nil c s hl hc h0]
  · rw [if_neg h0]
    unfold parseS
    have h8 : ∀ x ∈ s, x.size ≤ 8 := fun x hx => (sized_le (hs x hx)).2
    have hsz := accT_size (itemsS c s) (fun y hy => (itemsS_size c s h8 y hy).1)
    have hln := itemsS_length c s
    rw [if_neg (by omega), if_neg (acc_32 h0 (items_32 c s))]
    have e : (accT (itemsS c s)).data.toList = Lib.join ((itemsS c s).map (·.data.toList)) [44, 32] := rfl
    rw [e, split_join 44 [32] _ (by simpa using h0) (by
      intro x hx
      obtain ⟨y, hy, rfl⟩ := List.mem_map.1 hx
      exact items_44 c s hc hs y hy)]
    have := parse_items c s hl hc hs hn s.length 0 (-1) rfl (by omega) (by omega)
    simpa using this

/-! ### and back -/
theorem itemP_back {s : List ByteArray} {x : List UInt8} (h : (itemP s x).2.2 = 0) :
    ∃ (i : Nat) (hi : i < s.length) (n : Int), itemP s x = ((i : Int), n, 0) ∧ 0 < n ∧ n ≤ 1000 ∧ x = (itemB s[i] n).data.toList := by
  unfold itemP at h ⊢
  split at h
  · rename_i h1
    rw [if_pos h1]
    split at h
    · simp at h
    · rename_i h2
      rw [if_neg h2]
      split at h
      · simp at h
      · rename_i h3
        rw [if_neg h3]
        obtain ⟨q1, q2, q3⟩ := h1
        have hcut : cutL x [32] = ((cutL x [32]).1, (cutL x [32]).2.1, true) := by rw [← q1]
        obtain ⟨ex, _⟩ := cut_back hcut
        generalize (cutL x [32]).1 = a at *
        generalize (cutL x [32]).2.1 = b at *
        have hm : (⟨a.toArray⟩ : ByteArray) ∈ s := by
          apply Classical.byContradiction
          intro hm
          apply h2
          unfold findS; rw [if_neg hm]; decide
        have hidx := List.idxOf_lt_length_iff.2 hm
        obtain ⟨g1, g2, g3, g4⟩ := numOk_iff.1 q2
        refine ⟨s.idxOf ⟨a.toArray⟩, hidx, (val b : Int), ?_, by omega, by omega, ?_⟩
        · unfold findS; rw [if_pos hm]
        · rw [itemB_data, List.getElem_idxOf hidx, itoaL_nat _ (by omega), dec_of _ b rfl g1 g3 g4]
          rw [ex]
  · simp at h
theorem items_zero : ∀ (o : List Int) (s : List ByteArray), (∀ x ∈ o, x = 0) → itemsS o s = []
  | [], s, _ => by simp [itemsS]
  | o :: os, [], _ => by simp [itemsS]
  | o :: os, s :: ss, h => by
    simp only [itemsS]
    rw [if_neg (by have := h o (by simp); omega)]
    exact items_zero os ss (fun x hx => h x (by simp [hx]))
theorem items_set : ∀ (o : List Int) (s : List ByteArray) (i : Nat) (hi : i < s.length) (n : Int), o.length = s.length → 0 < n → (∀ j (h : j < o.length), i ≤ j → o[j] = 0) → itemsS (o.set i n) s = itemsS o s ++ [itemB s[i] n]
  | [], s, i, hi, n, hl, _, _ => by simp at hl; omega
  | o :: os, [], i, hi, n, _, _, _ => by simp at hi
  | o :: os, s :: ss, 0, hi, n, hl, hn, hz => by
    have h0 : o = 0 := hz 0 (by simp) (by omega)
    have hr : itemsS os ss = [] := items_zero os ss (fun x hx => by
      obtain ⟨j, hj, rfl⟩ := List.getElem_of_mem hx
      have := hz (j + 1) (by simpa using hj) (by omega)
      simpa using this)
    simp only [List.set_cons_zero, itemsS]
    rw [if_pos hn, if_neg (by omega), hr]
    rfl
  | o :: os, s :: ss, i + 1, hi, n, hl, hn, hz => by
    have ih := items_set os ss i (by simpa using hi) n (by simpa using hl) hn (fun j h hij => by
      have := hz (j + 1) (by simpa using h) (by omega)
      simpa using this)
    simp only [List.set_cons_succ, itemsS]
    rw [ih]
    split <;> simp
theorem parse_back (s : List ByteArray) (c : List Int) : ∀ (L : List (List UInt8)) (o : List Int) (last : Int), o.length = s.length → o.all countB = true → -1 ≤ last → (∀ j (h : j < o.length), last < j → o[j] = 0) → (∀ j (h : j < o.length), last = j → 0 < o[j]) →
    parseL s o last L = (c, 0) → c.length = s.length ∧ c.all countB = true ∧ (itemsS c s).map (·.data.toList) = (itemsS o s).map (·.data.toList) ++ L
  | [], o, last, hl, hc, _, _, _, h => by
    simp only [parseL, Prod.mk.injEq] at h
    obtain ⟨rfl, _⟩ := h
    exact ⟨hl, hc, by simp⟩
  | x :: r, o, last, hl, hc, h1, hz, hp, h => by
    simp only [parseL] at h
    by_cases he : (itemP s x).2.2 = 0
    · rw [if_pos he] at h
      obtain ⟨i, hi, n, e, hn0, hn1, ex⟩ := itemP_back he
      rw [e] at h
      simp only at h
      have hio : i < o.length := by omega
      by_cases hx : rd o (i : Int) > 0
      · rw [if_pos hx] at h; simp at h
      · rw [if_neg hx] at h
        rw [rd_at o i hio] at hx
        by_cases hla : (i : Int) < last
        · rw [if_pos hla] at h; simp at h
        · rw [if_neg hla] at h
          have hgt : last < i := by
            by_cases e2 : last = i
            · exact absurd (hp i hio e2) hx
            · omega
          have hset : (o.set i n).length = s.length := by simp [hl]
          obtain ⟨g1, g2, g3⟩ := parse_back s c r (o.set ((i : Int)).toNat n) (i : Int) (by simp [hl]) (by
              rw [List.all_eq_true]
              intro y hy
              rcases List.mem_or_eq_of_mem_set hy with hy | hy
              · exact List.all_eq_true.1 hc y hy
              · rw [hy, countB_eq]; simp; omega) (by omega) (by
              intro j hj hij
              simp only [Int.toNat_natCast] at hj ⊢
              rw [List.getElem_set_ne (by omega)]
              exact hz j (by simpa using hj) (by omega)) (by
              intro j hj hij
              simp only [Int.toNat_natCast] at hj ⊢
              have : i = j := by omega
              subst this
              rw [List.getElem_set_self]; exact hn0) h
          refine ⟨g1, g2, ?_⟩
          rw [g3, Int.toNat_natCast, items_set o s i hi n hl hn0 (fun j hj hij => hz j hj (by omega)), ex]
          simp
    · rw [if_neg he] at h
      simp only [Prod.mk.injEq] at h
      exact absurd h.2 he
theorem parse_err {s : List ByteArray} : ∀ {L : List (List UInt8)} {o : List Int} {last : Int}, (parseL s o last L).2 ≠ 0 → (parseL s o last L).1 = []
  | [], o, last, h => by simp [parseL] at h
  | x :: r, o, last, h => by
    simp only [parseL] at h ⊢
    by_cases he : (itemP s x).2.2 = 0
    · rw [if_pos he] at h ⊢
      split at h
      · rename_i h2; rw [if_pos h2]
      · rename_i h2
        rw [if_neg h2]
        split at h
        · rename_i h3; rw [if_pos h3]
        · rename_i h3
          rw [if_neg h3]
          exact parse_err h
    · rw [if_neg he]
theorem parseS_err {t : ByteArray} {s : List ByteArray} (h : (parseS t s).2 ≠ 0) : (parseS t s).1 = [] := by
  unfold parseS at h ⊢
  split
  · rfl
  · rename_i h1
    rw [if_neg h1] at h
    split
    · rename_i h2; rw [if_pos h2] at h; simp at h
    · rename_i h2
      rw [if_neg h2] at h
      exact parse_err h
theorem texts_back (t : ByteArray) (s : List ByteArray) (c : List Int) (h : parseS t s = (c, 0)) : c.length = s.length ∧ c.all countB = true ∧ textS c s = t := by
  unfold parseS at h
  split at h
  · simp at h
  · split at h
    · rename_i h2
      simp only [Prod.mk.injEq] at h
      obtain ⟨rfl, _⟩ := h
      refine ⟨by simp, ?_, ?_⟩
      · rw [List.all_eq_true]
        intro x hx
        rw [List.eq_of_mem_replicate hx]; rfl
      · unfold textS
        rw [if_pos (items_zero _ s (fun x hx => List.eq_of_mem_replicate hx)), h2]
    · obtain ⟨g1, g2, g3⟩ := parse_back s c _ _ _ (by simp) (by
        rw [List.all_eq_true]
        intro x hx
        rw [List.eq_of_mem_replicate hx]; rfl) (by omega) (by
        intro j hj _
        simp) (by
        intro j hj e
        omega) h
      refine ⟨g1, g2, ?_⟩
      rw [items_zero (List.replicate s.length 0) s (fun x hx => List.eq_of_mem_replicate hx)] at g3
      simp only [List.map_nil, List.nil_append] at g3
      unfold textS
      have hne : itemsS c s ≠ [] := by
        intro e
        rw [e] at g3
        exact splitL_ne _ _ g3.symm
      rw [if_neg hne]
      apply ba_ext
      show Lib.join ((itemsS c s).map (·.data.toList)) [44, 32] = _
      rw [g3, join_split [44, 32] (by simp) _ _ (Nat.le_refl _)]
theorem print_ok {c : List Int} {s : List ByteArray} (h : (printS c s).2 = 0) : c.length = s.length ∧ (∀ x ∈ s, sizedS x = true) ∧ s.length ≤ 12 ∧ c.all countB = true ∧ s.Nodup ∧ printS c s = (textS c s, 0) := by
  unfold printS at h ⊢
  split at h
  · rename_i h1
    rw [if_pos h1]
    split at h
    · simp at h
    · rename_i h2
      rw [if_neg h2]
      split at h
      · rename_i h3
        rw [if_pos h3]
        split at h
        · rename_i h4
          rw [if_pos h4]
          exact ⟨h1.1, fun x hx => List.all_eq_true.1 h1.2 x hx, by omega, h3, h4, rfl⟩
        · simp at h
      · simp at h
  · simp at h
theorem print_is {c : List Int} {s : List ByteArray} (h1 : c.length = s.length) (h2 : ∀ x ∈ s, sizedS x = true) (h3 : s.length ≤ 12) (h4 : c.all countB = true) (h5 : s.Nodup) : printS c s = (textS c s, 0) := by
  unfold printS
  rw [if_pos ⟨h1, List.all_eq_true.2 h2⟩, if_neg (by omega), if_pos h4, if_pos h5]
theorem print_err {c : List Int} {s : List ByteArray} (h : (printS c s).2 ≠ 0) : (printS c s).1 = ⟨#[]⟩ := by
  unfold printS at h ⊢
  split
  · rename_i h1
    rw [if_pos h1] at h
    split
    · rfl
    · rename_i h2
      rw [if_neg h2] at h
      split
      · rename_i h3
        rw [if_pos h3] at h
        split
        · rename_i h4
          rw [if_pos h4] at h
          simp at h
        · rfl
      · rfl
  · rfl
end Go.Proofs.YtgbidbhknffdoaaGreatDoor
