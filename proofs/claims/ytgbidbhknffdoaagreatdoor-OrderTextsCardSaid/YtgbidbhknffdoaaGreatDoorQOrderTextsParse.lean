/- What Parse computes. -/
import Derived.Test.YtgbidbhknffdoaaGreatDoorQOrderTextsPrint
import Derived.Test.YtgbidbhknffdoaaGreatDoorJ2
namespace Go.Proofs.YtgbidbhknffdoaaGreatDoor
set_option linter.unusedVariables false
set_option linter.unusedSimpArgs false
open Go Go.RowKit P Go.Proofs.YtgbidbhknffdoaaGreatDoorW.PrintWords Go.Proofs.YtgbidbhknffdoaaGreatDoorW.PrintLast Go.Proofs.YtgbidbhknffdoaaGreatDoorW.PrintMore

/-- A number's text: 1 to 18 digits, no leading nought. -/
def numOk (l : List UInt8) : Bool := decide (l ≠ []) && decide (l.length ≤ 18) && l.all isDig && decide (l.head? = some 48 → l.length = 1)
def numS (l : List UInt8) : Int × Bool := if numOk l = true then ((val l : Int), true) else (0, false)
theorem numOk_iff {l : List UInt8} : numOk l = true ↔ l ≠ [] ∧ l.length ≤ 18 ∧ l.all isDig = true ∧ (l.head? = some 48 → l.length = 1) := by
  unfold numOk
  simp only [Bool.and_eq_true, decide_eq_true_eq, and_assoc]
theorem number_ev (s : ByteArray) (hb : s.size ≤ 1000000000000) : Ev (fun k => order_number.f k s) (numS s.data.toList) := by
  unfold order_number.f
  have hnil : s.toList = [] ↔ s.data.toList = [] := by rw [ba_toList]
  have bad : ∀ q : Bool, q = true → numOk s.data.toList = false → Ev (fun k => order_number.j0 k s q) (numS s.data.toList) := by
    rintro q rfl hn
    refine Ev.succ ?_
    simp only [order_number.j0]
    refine Ev.pos trivial ?_
    unfold numS
    rw [hn, if_neg (by simp)]
    exact Ev.pure _
  by_cases h0 : s.data.toList = []
  · exact Ev.pos (hnil.2 h0) (bad _ rfl (Bool.eq_false_iff.2 fun h => (numOk_iff.1 h).1 h0))
  · have hs0 : 0 < s.size := by rw [← ba_len]; exact List.length_pos_iff.2 h0
    refine Ev.neg (fun h => h0 (hnil.1 h)) ?_
    by_cases h18 : (s.size : Int) > 18
    · exact Ev.pos h18 (bad _ rfl (Bool.eq_false_iff.2 fun h => by have := (numOk_iff.1 h).2.1; rw [ba_len] at this; omega))
    · refine Ev.neg h18 (Ev.pos (by omega) ?_)
      have hb0 := bt_get s 0 hs0
      have hhead : s.data.toList.head? = some (s.data.toList[0]'(by rw [ba_len]; exact hs0)) := by
        rw [List.head?_eq_getElem?, List.getElem?_eq_getElem]
      have e0 : bt s 0 = 48 ↔ s.data.toList.head? = some 48 := by
        have hb0' : bt s 0 = ((s.data.toList[0]'(by rw [ba_len]; exact hs0)).toNat : Int) := by simpa using hb0
        rw [hb0', hhead]
        constructor
        · intro h
          have : (s.data.toList[0]'(by rw [ba_len]; exact hs0)).toNat = (48 : UInt8).toNat := by
            have h4 : (48 : UInt8).toNat = 48 := rfl
            omega
          rw [UInt8.toNat_inj.1 this]
        · intro h
          rw [Option.some.inj h]; rfl
      have go : (s.data.toList.head? = some 48 → s.data.toList.length = 1) → ∀ q : Bool, q = false → Ev (fun k => order_number.j0 k s q) (numS s.data.toList) := by
        rintro hh q rfl
        refine Ev.succ ?_
        simp only [order_number.j0]
        refine Ev.neg (by simp) ?_
        have key : ∀ (m i : Nat), s.size - i = m → i ≤ s.size → (s.data.toList.take i).all isDig = true → Ev (fun k => order_number.l0 k s (s.size : Int) (i : Int)) (numS s.data.toList) := by
          intro m
          induction m with
          | zero =>
            intro i hm hi hd
            refine Ev.succ ?_
            simp only [order_number.l0]
            refine Ev.neg (by omega) ?_
            rw [List.take_of_length_le (by rw [ba_len]; omega)] at hd
            have hok : numOk s.data.toList = true := numOk_iff.2 ⟨h0, by rw [ba_len]; omega, hd, hh⟩
            have hat : strconv_Atoi_59.f s = some ((val s.data.toList : Int), none) := by
              unfold strconv_Atoi_59.f
              rw [if_pos (by omega), atoi_dig h0 hd (by rw [ba_len]; omega)]
            simp only [hat, Option.bind_some]
            unfold numS
            rw [if_pos hok]
            exact Ev.pure _
          | succ m ih =>
            intro i hm hi hd
            have hi1 : i < s.size := by omega
            have hi2 : i < s.data.toList.length := by rw [ba_len]; exact hi1
            refine Ev.succ ?_
            simp only [order_number.l0]
            refine Ev.pos (by omega) (Ev.pos (by omega) (Ev.pos (by omega) ?_))
            rw [bt_get s i hi1]
            have fin : ∀ q : Bool, (q = true ↔ ¬ isDig s.data.toList[i] = true) → Ev (fun k => order_number.j2 k s (s.size : Int) (i : Int) q) (numS s.data.toList) := by
              intro q hq
              refine Ev.succ ?_
              simp only [order_number.j2]
              by_cases hc : isDig s.data.toList[i] = true
              · refine Ev.neg (fun h => hq.1 h hc) ?_
                rw [wrap_succ (by omega)]
                refine ih (i + 1) (by omega) (by omega) ?_
                rw [List.take_succ_eq_append_getElem hi2, List.all_append, hd]
                simpa using hc
              · refine Ev.pos (hq.2 hc) ?_
                unfold numS
                rw [if_neg (fun h => hc (List.all_eq_true.1 (numOk_iff.1 h).2.2.1 _ (List.getElem_mem hi2)))]
                exact Ev.pure _
            generalize hcc : s.data.toList[i] = c at fin
            by_cases a1 : (c.toNat : Int) < 48
            · exact Ev.pos a1 (fin _ (by rw [isDig_iff]; simp; omega))
            · exact Ev.neg a1 (fin _ (by rw [isDig_iff]; simp; omega))
        have := key s.size 0 rfl (by omega) (by simp)
        simpa using this
      by_cases h48 : bt s 0 = 48
      · refine Ev.pos h48 ?_
        by_cases h1 : s.size = 1
        · exact go (fun _ => by rw [ba_len]; exact h1) _ (by simp [h1])
        · refine bad _ (by simp; omega) (Bool.eq_false_iff.2 fun h => ?_)
          have := (numOk_iff.1 h).2.2.2 (e0.1 h48)
          rw [ba_len] at this; omega
      · exact Ev.neg h48 (go (fun h => absurd (e0.2 h) h48) _ rfl)

/-- An item: the size's index and the count, or why not. -/
def itemP (sizes : List ByteArray) (s : List UInt8) : Int × Int × Int :=
  if (cutL s [32]).2.2 = true ∧ numOk (cutL s [32]).2.1 = true ∧ (cutL s [32]).1 ≠ [] then
    if findS sizes ⟨(cutL s [32]).1.toArray⟩ < 0 then (0, 0, 6)
    else if val (cutL s [32]).2.1 < 1 ∨ 1000 < val (cutL s [32]).2.1 then (0, 0, 3) else (findS sizes ⟨(cutL s [32]).1.toArray⟩, (val (cutL s [32]).2.1 : Int), 0)
  else (0, 0, 2)
theorem cut_len (s : List UInt8) : (cutL s [32]).2.1.length ≤ s.length := by
  rcases hx : cutL s [32] with ⟨x, y, q⟩
  cases q with
  | true =>
    obtain ⟨e, _⟩ := cut_back hx
    rw [e]; simp; omega
  | false =>
    by_cases hm : (32 : UInt8) ∈ s
    · obtain ⟨u, v, rfl, hu⟩ := List.eq_append_cons_of_mem hm
      rw [cut_hit _ _ _ hu] at hx
      cases hx
    · rw [cut_miss _ _ hm] at hx
      cases hx
      simp
theorem item_ev (sizes : List ByteArray) (s : ByteArray) (hs : s.size ≤ 1000000) (hz : sizes.length ≤ 1000000) : Ev (fun k => order_item.f k s sizes) (itemP sizes s.data.toList) := by
  unfold order_item.f
  have hcut : strings_Cut.f s (⟨#[32]⟩ : ByteArray) = some (⟨(cutL s.data.toList [32]).1.toArray⟩, ⟨(cutL s.data.toList [32]).2.1.toArray⟩, (cutL s.data.toList [32]).2.2) := by
    unfold strings_Cut.f
    rw [if_pos (by omega)]
  simp only [hcut, Option.bind_some]
  have hl := cut_len s.data.toList
  rw [ba_len] at hl
  unfold itemP
  generalize cutL s.data.toList [32] = p at hl ⊢
  obtain ⟨a, b, q⟩ := p
  simp only at hl ⊢
  refine Ev.bind (number_ev ⟨b.toArray⟩ (by rw [← ba_len]; simpa using (by omega : b.length ≤ 1000000000000))) ?_
  have eb : (⟨b.toArray⟩ : ByteArray).data.toList = b := by simp
  rw [eb]
  have bad : ∀ (n : Int) (t : Bool), t = true → Ev (fun k => order_item.j0 k sizes ⟨a.toArray⟩ n t) (0, 0, 2) := by
    rintro n t rfl
    refine Ev.succ ?_
    simp only [order_item.j0]
    exact Ev.pos trivial (Ev.pure _)
  cases q with
  | false => rw [if_neg (by simp)]; exact Ev.neg (by simp) (bad _ _ rfl)
  | true =>
    refine Ev.pos rfl ?_
    unfold numS
    by_cases hn : numOk b = true
    · rw [if_pos hn]
      refine Ev.pos rfl ?_
      by_cases ha : a = []
      · rw [if_neg (by simp [ha])]
        exact bad _ _ (by rw [ba_toList]; simp [ha])
      · rw [if_pos ⟨rfl, hn, ha⟩]
        refine Ev.succ ?_
        simp only [order_item.j0]
        refine Ev.neg (by rw [ba_toList]; simp [ha]) (Ev.bind (index_ev sizes _ (by omega)) ?_)
        by_cases hf : findS sizes ⟨a.toArray⟩ < 0
        · rw [if_pos hf]; exact Ev.pos hf (Ev.pure _)
        · rw [if_neg hf]
          refine Ev.neg hf ?_
          have fin : ∀ t : Bool, (t = true ↔ (val b < 1 ∨ 1000 < val b)) → Ev (fun k => order_item.j1 k (val b : Int) (findS sizes ⟨a.toArray⟩) t) (if val b < 1 ∨ 1000 < val b then (0, 0, 3) else (findS sizes ⟨a.toArray⟩, (val b : Int), 0)) := by
            intro t ht
            refine Ev.succ ?_
            simp only [order_item.j1]
            by_cases hr : val b < 1 ∨ 1000 < val b
            · rw [if_pos hr]; exact Ev.pos (ht.2 hr) (Ev.pure _)
            · rw [if_neg hr]; exact Ev.neg (fun h => hr (ht.1 h)) (Ev.pure _)
          by_cases h1 : (val b : Int) < 1
          · exact Ev.pos h1 (fin _ (by simp; omega))
          · exact Ev.neg h1 (fin _ (by simp; omega))
    · rw [if_neg hn, if_neg (fun h => hn h.2.1)]
      exact Ev.neg (by simp) (bad _ _ rfl)

/-- The items, one by one. -/
def parseL (sizes : List ByteArray) : List Int → Int → List (List UInt8) → List Int × Int
  | out, _, [] => (out, 0)
  | out, last, x :: r =>
    if (itemP sizes x).2.2 = 0 then if rd out (itemP sizes x).1 > 0 then ([], 7) else if (itemP sizes x).1 < last then ([], 21) else parseL sizes (out.set (itemP sizes x).1.toNat (itemP sizes x).2.1) (itemP sizes x).1 r
    else ([], (itemP sizes x).2.2)
def parseS (s : ByteArray) (sizes : List ByteArray) : List Int × Int :=
  if s.size > 400 ∨ sizes.length > 12 then ([], 5) else if s = noneB then (List.replicate sizes.length 0, 0) else parseL sizes (List.replicate sizes.length 0) (-1) (splitL [44, 32] s.data.toList)
theorem itemP_at {sizes : List ByteArray} {x : List UInt8} (h : (itemP sizes x).2.2 = 0) : 0 ≤ (itemP sizes x).1 ∧ (itemP sizes x).1 < sizes.length := by
  unfold itemP at h ⊢
  split at h
  · rename_i h1
    rw [if_pos h1]
    split at h
    · simp at h
    · rename_i h2
      rw [if_neg h2]
      split at h
      · simp at h
      · rename_i h3
        rw [if_neg h3]
        refine ⟨by simpa using h2, ?_⟩
        simp only
        unfold findS at h2 ⊢
        split
        · rename_i hm
          have := List.idxOf_lt_length_iff.2 hm
          omega
        · rename_i hm
          rw [if_neg hm] at h2
          omega
  · simp at h
theorem join_mem (sep : List UInt8) : ∀ (l : List (List UInt8)), ∀ x ∈ l, x.length ≤ (Lib.join l sep).length
  | [], x, h => by cases h
  | [y], x, h => by
    rw [Lib.join_one]
    have : x = y := by simpa using h
    rw [this]
    exact Nat.le_refl _
  | y :: z :: r, x, h => by
    rw [joinL_cons sep y (l := z :: r) (by simp)]
    simp only [List.length_append]
    rcases List.mem_cons.1 h with rfl | h
    · omega
    · have := join_mem sep (z :: r) x h
      omega
theorem join_count (sep : List UInt8) (hs : sep ≠ []) : ∀ (l : List (List UInt8)), l.length ≤ (Lib.join l sep).length + 1
  | [] => by simp
  | [y] => by simp
  | y :: z :: r => by
    have := join_count sep hs (z :: r)
    have hl : 0 < sep.length := List.length_pos_iff.2 hs
    rw [joinL_cons sep y (l := z :: r) (by simp)]
    simp only [List.length_append, List.length_cons] at this ⊢
    omega
theorem parse_ev (s : ByteArray) (sizes : List ByteArray) (hz : sizes.length ≤ 20) : Ev (fun k => order_Parse.f k s sizes) (parseS s sizes) := by
  unfold order_Parse.f parseS
  have bad : ∀ q : Bool, q = true → Ev (fun k => order_Parse.j0 k s sizes q) ([], 5) := by
    rintro q rfl
    refine Ev.succ ?_
    simp only [order_Parse.j0]
    exact Ev.pos trivial (Ev.pure _)
  by_cases h4 : (s.size : Int) > 400
  · rw [if_pos (by omega)]
    exact Ev.pos h4 (bad _ rfl)
  · refine Ev.neg h4 ?_
    by_cases h12 : (sizes.length : Int) > 12
    · rw [if_pos (by omega)]
      exact bad _ (by simpa using h12)
    · rw [if_neg (by omega)]
      refine Ev.succ ?_
      simp only [order_Parse.j0]
      refine Ev.neg (by simpa using h12) (Ev.pos (by omega) (Ev.pos (by simp; omega) ?_))
      simp only [Option.bind_some]
      have en : s.toList = ([110, 111, 110, 101] : List UInt8) ↔ s = noneB := by
        rw [ba_toList]
        exact ⟨fun h => ba_ext (by rw [h]; rfl), fun h => by rw [h]; rfl⟩
      have er : List.replicate ((sizes.length : Int)).toNat (0 : Int) = List.replicate sizes.length 0 := by simp
      by_cases hn : s = noneB
      · rw [if_pos hn, er]
        exact Ev.pos (en.2 hn) (Ev.pure _)
      · rw [if_neg hn]
        refine Ev.neg (fun h => hn (en.1 h)) ?_
        have hsp : strings_Split.f s (⟨#[44, 32]⟩ : ByteArray) = some (pieces ⟨#[44, 32]⟩ s) := by
          unfold strings_Split.f
          rw [if_pos ⟨by omega, by decide⟩]
        simp only [hsp, Option.bind_some]
        rw [er]
        have hpc : pieces (⟨#[44, 32]⟩ : ByteArray) s = (splitL [44, 32] s.data.toList).map fun l => ⟨l.toArray⟩ := rfl
        rw [hpc]
        have hjs := join_split [44, 32] (by simp) s.data.toList.length s.data.toList (Nat.le_refl _)
        have hmem : ∀ x ∈ splitL [44, 32] s.data.toList, x.length ≤ 400 := fun x hx => by
          have := join_mem [44, 32] _ x hx
          rw [hjs, ba_len] at this
          omega
        have hcnt : (splitL [44, 32] s.data.toList).length ≤ 401 := by
          have := join_count [44, 32] (by simp) (splitL [44, 32] s.data.toList)
          rw [hjs, ba_len] at this
          omega
        generalize splitL [44, 32] s.data.toList = L at hmem hcnt
        have key : ∀ (m i : Nat) (out : List Int) (last : Int), L.length - i = m → i ≤ L.length → out.length = sizes.length →
            Ev (fun k => order_Parse.l0 k sizes out last (L.map fun l => (⟨l.toArray⟩ : ByteArray)) ((L.map fun l => (⟨l.toArray⟩ : ByteArray)).length : Int) (i : Int)) (parseL sizes out last (L.drop i)) := by
          intro m
          induction m with
          | zero =>
            intro i out last hm hi ho
            refine Ev.succ ?_
            simp only [order_Parse.l0]
            refine Ev.neg (by simp; omega) ?_
            rw [List.drop_eq_nil_of_le (by omega)]
            exact Ev.pure _
          | succ m ih =>
            intro i out last hm hi ho
            have hi1 : i < L.length := by omega
            refine Ev.succ ?_
            simp only [order_Parse.l0]
            refine Ev.pos (by simp; omega) (Ev.pos (by omega) (Ev.pos (by simp; omega) ?_))
            rw [rdOf_at _ _ i (by simpa using hi1), List.drop_eq_getElem_cons hi1]
            have hsz := hmem _ (List.getElem_mem hi1)
            have hd : ((L.map fun l => (⟨l.toArray⟩ : ByteArray))[i]'(by simpa using hi1)).data.toList = L[i] := by simp
            refine Ev.bind (item_ev sizes _ (by rw [← ba_len, hd]; omega) (by omega)) ?_
            rw [hd]
            simp only [parseL]
            by_cases he : (itemP sizes L[i]).2.2 = 0
            · rw [if_pos he]
              obtain ⟨g0, g1⟩ := itemP_at he
              refine Ev.pos he (Ev.pos g0 (Ev.pos (by omega) ?_))
              by_cases hx : rd out (itemP sizes L[i]).1 > 0
              · rw [if_pos hx]; exact Ev.pos hx (Ev.pure _)
              · rw [if_neg hx]
                refine Ev.neg hx ?_
                by_cases hla : (itemP sizes L[i]).1 < last
                · rw [if_pos hla]; exact Ev.pos hla (Ev.pure _)
                · rw [if_neg hla]
                  refine Ev.neg hla ?_
                  rw [wrap_succ (by omega)]
                  exact ih (i + 1) _ _ (by omega) (by omega) (by simp [ho])
            · rw [if_neg he]
              exact Ev.neg he (Ev.pure _)
        have := key L.length 0 (List.replicate sizes.length 0) (-1) rfl (by omega) (by simp)
        simpa using this
end Go.Proofs.YtgbidbhknffdoaaGreatDoor
