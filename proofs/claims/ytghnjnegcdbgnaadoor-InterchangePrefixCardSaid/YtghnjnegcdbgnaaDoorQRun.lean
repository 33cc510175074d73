/- Texts of markers as lines: what a run over the lines says, and its inverse. No program here. -/
import Derived.Test.YtghnjnegcdbgnaaDoorQMark
namespace Go.Proofs.YtghnjnegcdbgnaaDoor
set_option linter.unusedVariables false
set_option linter.unusedSimpArgs false
open Go Go.RowKit P Go.Proofs.YtghnjnegcdbgnaaDoorW.PrintWords Go.Proofs.YtghnjnegcdbgnaaDoorW.PrintLast Go.Proofs.YtghnjnegcdbgnaaDoorW.PrintMore

def unl (ls : List (List UInt8)) (t : List UInt8) : List UInt8 := ls.flatMap (fun l => l ++ [10]) ++ t
theorem unl_nil (t : List UInt8) : unl [] t = t := rfl
theorem unl_cons (l : List UInt8) (ls : List (List UInt8)) (t : List UInt8) : unl (l :: ls) t = l ++ 10 :: unl ls t := by
 unfold unl; simp
theorem unl_append (a b : List (List UInt8)) (t : List UInt8) : unl (a ++ b) t = unl a (unl b t) := by
 unfold unl; simp
theorem unl_exists : ∀ s : List UInt8, ∃ ls t, s = unl ls t ∧ (∀ l ∈ ls, (10 : UInt8) ∉ l) ∧ (10 : UInt8) ∉ t
 | [] => ⟨[], [], rfl, by simp, by simp⟩
 | c :: s => by
  obtain ⟨ls, t, rfl, h1, h2⟩ := unl_exists s
  by_cases hc : c = 10
  ·subst hc
   exact ⟨[] :: ls, t, by rw [unl_cons]; rfl, by simpa using h1, h2⟩
  ·cases ls with
   | nil => exact ⟨[], c :: t, rfl, by simp, by
     intro h
     rcases List.mem_cons.1 h with h | h
     ·exact hc h.symm
     ·exact h2 h⟩
   | cons l ls =>
    refine ⟨(c :: l) :: ls, t, by rw [unl_cons, unl_cons]; rfl, ?_, h2⟩
    intro x hx
    rcases List.mem_cons.1 hx with rfl | hx
    ·intro h
     rcases List.mem_cons.1 h with h | h
     ·exact hc h.symm
     ·exact h1 l (by simp) h
    ·exact h1 x (by simp [hx])
theorem unl_count : ∀ (ls : List (List UInt8)) (t : List UInt8), (∀ l ∈ ls, (10 : UInt8) ∉ l) → (10 : UInt8) ∉ t → (unl ls t).count 10 = ls.length
 | [], t, _, h => by rw [unl_nil]; exact List.count_eq_zero.2 h
 | l :: ls, t, h, ht => by
  rw [unl_cons, List.count_append, List.count_cons_self, unl_count ls t (fun x hx => h x (by simp [hx])) ht, List.count_eq_zero.2 (h l (by simp))]
  simp
theorem unl_length : ∀ (ls : List (List UInt8)) (t : List UInt8), ls.length ≤ (unl ls t).length
 | [], t => by simp
 | l :: ls, t => by
  have := unl_length ls t
  rw [unl_cons]; simp; omega
theorem unl_part : ∀ (ls : List (List UInt8)) (t : List UInt8), ∀ l ∈ ls, l.length ≤ (unl ls t).length
 | [], t, l, h => by cases h
 | x :: ls, t, l, h => by
  rw [unl_cons]
  simp only [List.length_append, List.length_cons]
  rcases List.mem_cons.1 h with rfl | h
  ·omega
  ·have := unl_part ls t l h
   omega
theorem unl_tail (ls : List (List UInt8)) (t : List UInt8) : t.length ≤ (unl ls t).length := by
 unfold unl; simp

def goP : Nat → Mk → List (List UInt8) → List UInt8 → Mk × Int × Int
 | i, m, [], t => if t = [] then if i ≤ 2 then (Mk0, 4, i) else (m, 0, 0) else (Mk0, 2, i)
 | i, m, l :: ls, t => if (stepS i m (splitL [32] l)).2 = 0 then goP (i + 1) (stepS i m (splitL [32] l)).1 ls t else (Mk0, (stepS i m (splitL [32] l)).2, i)
def runS : Nat → Mk → List (List UInt8) → Option Mk
 | _, m, [] => some m
 | i, m, l :: ls => if (stepS i m (splitL [32] l)).2 = 0 then runS (i + 1) (stepS i m (splitL [32] l)).1 ls else none
theorem goP_run : ∀ (ls : List (List UInt8)) (i : Nat) (m m' : Mk) (l2 : List (List UInt8)) (t : List UInt8), runS i m ls = some m' → goP i m (ls ++ l2) t = goP (i + ls.length) m' l2 t
 | [], i, m, m', l2, t, h => by cases h; rfl
 | l :: ls, i, m, m', l2, t, h => by
  simp only [runS] at h
  split at h
  ·rename_i h0
   rw [List.cons_append, goP, if_pos h0, goP_run ls (i + 1) _ m' l2 t h]
   simp only [List.length_cons]
   congr 1
   omega
  ·cases h
theorem goP_ok : ∀ (ls : List (List UInt8)) (i : Nat) (m m' : Mk) (t : List UInt8) (j : Int), goP i m ls t = (m', 0, j) → t = [] ∧ 2 < i + ls.length ∧ runS i m ls = some m' ∧ j = 0
  | [], i, m, m', t, j, h => by
    simp only [goP] at h
    split at h
    · rename_i ht
      split at h
      · cases h
      · cases h
        exact ⟨ht, by simp; omega, rfl, rfl⟩
    · cases h
  | l :: ls, i, m, m', t, j, h => by
    simp only [goP] at h
    split at h
    · rename_i h0
      obtain ⟨a, b, c, d⟩ := goP_ok ls (i + 1) _ m' t j h
      refine ⟨a, by simp only [List.length_cons]; omega, ?_, d⟩
      rw [runS, if_pos h0, c]
    · rename_i h0
      have h1 := (Prod.mk.inj h).2
      exact absurd (Prod.mk.inj h1).1 h0
theorem goP_fail : ∀ (ls : List (List UInt8)) (i : Nat) (m m' : Mk) (t : List UInt8) (e j : Int), goP i m ls t = (m', e, j) → e ≠ 0 →
    m' = Mk0 ∧ ∃ (n : Nat) (m1 : Mk), n ≤ ls.length ∧ j = ((i + n : Nat) : Int) ∧ runS i m (ls.take n) = some m1 ∧ (n = ls.length → (t = [] ∧ i + n ≤ 2 ∧ e = 4 ∨ t ≠ [] ∧ e = 2)) ∧ (∀ h : n < ls.length, (stepS (i + n) m1 (splitL [32] ls[n])).2 = e)
  | [], i, m, m', t, e, j, h, he => by
    simp only [goP] at h
    split at h
    · rename_i ht
      split at h
      · rename_i hi
        cases h
        exact ⟨rfl, 0, m, Nat.le_refl _, rfl, rfl, fun _ => .inl ⟨ht, hi, rfl⟩, fun h => absurd h (by simp)⟩
      · cases h; exact absurd rfl he
    · rename_i ht
      cases h
      exact ⟨rfl, 0, m, Nat.le_refl _, rfl, rfl, fun _ => .inr ⟨ht, rfl⟩, fun h => absurd h (by simp)⟩
  | l :: ls, i, m, m', t, e, j, h, he => by
    simp only [goP] at h
    split at h
    · rename_i h0
      obtain ⟨a, n, m1, h1, h2, h3, h4, h5⟩ := goP_fail ls (i + 1) _ m' t e j h he
      refine ⟨a, n + 1, m1, by simp only [List.length_cons]; omega, by rw [h2]; congr 1; omega, ?_, ?_, ?_⟩
      · rw [List.take_succ_cons, runS, if_pos h0, h3]
      · intro hn
        have := h4 (by simpa using hn)
        rw [show i + (n + 1) = i + 1 + n from by omega]
        exact this
      · intro hn
        have := h5 (by simpa using hn)
        rw [show i + (n + 1) = i + 1 + n from by omega]
        exact this
    · rename_i h0
      cases h
      exact ⟨rfl, 0, m, by simp, rfl, rfl, fun h => absurd h (by simp), fun _ => rfl⟩
def linesM (m : Mk) : List (List UInt8) := headLine m.a m.b m.c m.d :: sizesLine m.z :: m.p.map placeLine
def okM (m : Mk) : Prop := okH m.a m.b m.c m.d = true ∧ okZ m.z = true ∧ m.z.length ≤ 6 ∧ (∀ p ∈ m.p, okP p = true) ∧ m.p.length ≤ 60
def textM (m : Mk) : List UInt8 := unl (linesM m) []
theorem places_ok : ∀ (ps : List Pl) (i : Nat) (m : Mk), 3 ≤ i → (∀ p ∈ ps, okP p = true) → (m.p ++ ps).length ≤ 60 → runS i m (ps.map placeLine) = some ⟨m.a, m.b, m.c, m.d, m.z, m.p ++ ps⟩
 | [], i, m, _, _, _ => by rw [List.append_nil]; rfl
 | p :: ps, i, m, hi, hp, hl => by
  simp only [List.length_append, List.length_cons] at hl
  have h := place_ok m (hp p (by simp)) (by omega)
  have hs : stepS i m (splitL [32] (placeLine p)) = placeS m (splitL [32] (placeLine p)) := by unfold stepS; rw [if_neg (by omega), if_neg (by omega)]
  rw [List.map_cons, runS, hs, h, if_pos rfl, places_ok ps (i + 1) _ (by omega) (fun q hq => hp q (by simp [hq])) (by simp; omega)]
  simp
theorem places_back : ∀ (ls : List (List UInt8)) (i : Nat) (m m' : Mk), 3 ≤ i → m.p.length ≤ 60 → runS i m ls = some m' →
  ∃ ps, ls = ps.map placeLine ∧ (∀ p ∈ ps, okP p = true) ∧ (m.p ++ ps).length ≤ 60 ∧ m' = ⟨m.a, m.b, m.c, m.d, m.z, m.p ++ ps⟩
 | [], i, m, m', _, hl, h => by cases h; exact ⟨[], rfl, by simp, by simpa using hl, by rw [List.append_nil]⟩
 | l :: ls, i, m, m', hi, hl, h => by
  simp only [runS] at h
  split at h
  ·rename_i h0
   have hs : stepS i m (splitL [32] l) = placeS m (splitL [32] l) := by unfold stepS; rw [if_neg (by omega), if_neg (by omega)]
   rw [hs] at h h0
   rcases hx : placeS m (splitL [32] l) with ⟨m1, e⟩
   rw [hx] at h h0
   simp only at h0
   subst h0
   obtain ⟨p, hp, rfl, hlt, rfl⟩ := place_back hx hl
   obtain ⟨ps, rfl, h1, h2, rfl⟩ := places_back ls (i + 1) _ m' (by omega) (by simp; omega) h
   refine ⟨p :: ps, rfl, ?_, by simpa using h2, by simp⟩
   intro q hq
   rcases List.mem_cons.1 hq with rfl | hq
   ·exact hp
   ·exact h1 q hq
  ·cases h
theorem run_ok {m : Mk} (h : okM m) : runS 1 Mk0 (linesM m) = some m := by
 obtain ⟨h1, h2, h3, h4, h5⟩ := h
 have e1 : stepS 1 Mk0 (splitL [32] (headLine m.a m.b m.c m.d)) = (⟨m.a, m.b, m.c, m.d, [], []⟩, 0) := head_ok Mk0 h1
 have e2 : stepS (1 + 1) ⟨m.a, m.b, m.c, m.d, [], []⟩ (splitL [32] (sizesLine m.z)) = (⟨m.a, m.b, m.c, m.d, m.z, []⟩, 0) := sizes_ok ⟨m.a, m.b, m.c, m.d, [], []⟩ h2 h3
 unfold linesM
 rw [runS, e1, if_pos rfl, runS, e2, if_pos rfl, places_ok m.p _ _ (by omega) h4 (by simpa using h5)]
 rfl
theorem run_back {m : Mk} {ls : List (List UInt8)} (h : runS 1 Mk0 ls = some m) (hl : 2 ≤ ls.length) : okM m ∧ ls = linesM m := by
 match ls, hl with
 | l1 :: l2 :: ls, _ =>
  simp only [runS] at h
  split at h
  ·rename_i h0
   split at h
   ·rename_i h1
    rcases hx : headS Mk0 (splitL [32] l1) with ⟨m1, e⟩
    have ex : stepS 1 Mk0 (splitL [32] l1) = (m1, e) := hx
    rw [ex] at h h0 h1
    simp only at h0
    subst h0
    rcases hy : sizesS m1 (splitL [32] l2) with ⟨m2, e⟩
    have ey : stepS (1 + 1) m1 (splitL [32] l2) = (m2, e) := hy
    rw [ey] at h h1
    simp only at h1
    subst h1
    obtain ⟨a1, a2, a3, a4⟩ := head_back hx
    obtain ⟨b1, b2, b3, b4⟩ := sizes_back hy
    have hp0 : m2.p = [] := by rw [b4]; exact a4
    obtain ⟨ps, c1, c2, c3, c4⟩ := places_back ls _ m2 m (by omega) (by rw [hp0]; simp) h
    rw [hp0, List.nil_append] at c3 c4
    subst c4
    have ea : m2.a = m1.a := by rw [b4]
    have eb : m2.b = m1.b := by rw [b4]
    have ec : m2.c = m1.c := by rw [b4]
    have ed : m2.d = m1.d := by rw [b4]
    refine ⟨⟨by rw [ea, eb, ec, ed]; exact a1, b1, b2, c2, c3⟩, ?_⟩
    unfold linesM
    simp only [ea, eb, ec, ed]
    rw [← a2, ← b3, ← c1]
   ·cases h
  ·cases h
theorem lines_10 {m : Mk} (h : okM m) : ∀ l ∈ linesM m, (10 : UInt8) ∉ l := by
 obtain ⟨h1, h2, h3, h4, h5⟩ := h
 intro l hl
 unfold linesM at hl
 rcases List.mem_cons.1 hl with rfl | hl
 ·intro hm
  rcases List.mem_append.1 hm with hm | hm
  ·exact absurd hm (by decide)
  ·exact text_byte (all_in64 h1 (by omega) cM_le) (by decide) (by decide) (by decide) hm
 ·rcases List.mem_cons.1 hl with rfl | hl
  ·intro hm
   rcases List.mem_append.1 hm with hm | hm
   ·exact absurd hm (by decide)
   ·exact text_byte (all_in64 h2 (by omega) cM_le) (by decide) (by decide) (by decide) hm
  ·obtain ⟨p, hp, rfl⟩ := List.mem_map.1 hl
   have h6 := inP_in64 (okP_iff.1 (h4 p hp))
   intro hm
   unfold placeLine at hm
   rcases List.mem_append.1 hm with hm | hm
   ·rcases List.mem_append.1 hm with hm | hm
    ·rcases List.mem_append.1 hm with hm | hm
     ·exact absurd hm (by decide)
     ·exact text_byte (fun n hn => h6 n (by simp at hn ⊢; rcases hn with rfl | rfl | rfl <;> simp)) (by decide) (by decide) (by decide) hm
    ·unfold flipT at hm
     split at hm
     ·exact absurd hm (by decide)
     ·cases hm
   ·exact text_byte (fun n hn => h6 n (by simp at hn ⊢; rcases hn with rfl | rfl | rfl <;> simp)) (by decide) (by decide) (by decide) hm
theorem textM_size (m : Mk) (h : okM m) : (textM m).length ≤ 10000 := by
 obtain ⟨h1, h2, h3, h4, h5⟩ := h
 have hp : ∀ ps : List Pl, (unl (ps.map placeLine) []).length ≤ 160 * ps.length := by
  intro ps
  induction ps with
  | nil => simp [unl_nil]
  | cons p ps ih =>
   have e1 := textL_length [p.f0, p.f1, p.f2]
   have e2 := textL_length [p.f3.f1, p.f4.f0, p.f4.f1]
   have e3 : (flipT p.f3.f0).length ≤ 5 := by unfold flipT; split <;> decide
   have e4 : wPlace.length = 5 := rfl
   have e5 : (placeLine p).length ≤ 150 := by
    unfold placeLine
    simp only [List.length_append, List.length_cons, List.length_nil] at e1 e2 ⊢
    omega
   rw [List.map_cons, unl_cons]
   simp only [List.length_append, List.length_cons] at ih ⊢
   omega
 have e1 := textL_length [m.a, m.b, m.c, m.d]
 have e2 := textL_length m.z
 have e3 := hp m.p
 have e4 : wMarker.length = 6 := rfl
 have e5 : wSizes.length = 5 := rfl
 unfold textM linesM
 rw [unl_cons, unl_cons]
 unfold headLine sizesLine
 simp only [List.length_append, List.length_cons, List.length_nil] at e1 ⊢
 omega

theorem take_unl : ∀ (ls : List (List UInt8)) (n : Nat), n ≤ (unl ls []).length → ∃ (j : Nat) (t : List UInt8), (unl ls []).take n = unl (ls.take j) t ∧ j ≤ ls.length ∧ (j = ls.length → t = []) ∧ (∀ h : j < ls.length, ∃ r, t = ls[j].take r)
 | [], n, _ => ⟨0, [], by simp [unl_nil], Nat.le_refl _, fun _ => rfl, fun h => absurd h (by simp)⟩
 | l :: ls, n, h => by
  rw [unl_cons] at h
  by_cases hn : n ≤ l.length
  ·refine ⟨0, l.take n, ?_, by simp, fun h0 => absurd h0 (by simp), fun _ => ⟨n, rfl⟩⟩
   rw [unl_cons, List.take_append_of_le_length hn]; rfl
  ·simp only [List.length_append, List.length_cons] at h
   obtain ⟨j, t, h1, h2, h3, h4⟩ := take_unl ls (n - l.length - 1) (by omega)
   refine ⟨j + 1, t, ?_, by simp; omega, fun h0 => h3 (by simpa using h0), fun h0 => h4 (by simpa using h0)⟩
   rw [List.take_succ_cons, unl_cons, unl_cons, ← h1, List.take_append]
   rw [List.take_of_length_le (by omega), show n - l.length = (n - l.length - 1) + 1 from by omega, List.take_succ_cons]
   rfl
end Go.Proofs.YtghnjnegcdbgnaaDoor
