/- Texts of markers as lines: what a run over the lines says, and its inverse. No program here. -/
import Derived.Test.YtghnjnegcdbgnaaDoorQMark
namespace Go.Proofs.YtghnjnegcdbgnaaDoor
set_option linter.unusedVariables false
set_option linter.unusedSimpArgs false
open Go Go.RowKit P Go.Proofs.YtghnjnegcdbgnaaDoorW.PrintWords Go.Proofs.YtghnjnegcdbgnaaDoorW.PrintLast Go.Proofs.YtghnjnegcdbgnaaDoorW.PrintMore

def unl (ls : List (List UInt8)) (t : List UInt8) : List UInt8 := ls.flatMap (fun l => l ++ [10]) ++ t
theorem unl_nil (t : List UInt8) : unl [] t = t := rfl
theorem unl_cons (l : List UInt8) (ls : List (List UInt8)) (t : List UInt8) : unl (l :: ls) t = l ++ 10 :: unl ls t := by
 unfold unl; simp
theorem unl_append (a b : List (List UInt8)) (t : List UInt8) : unl (a ++ b) t = unl a (unl b t) := by
 unfold unl; simp
theorem unl_count : ∀ (ls : List (List UInt8)) (t : List UInt8), (∀ l ∈ ls, (10 : UInt8) ∉ l) → (10 : UInt8) ∉ t → (unl ls t).count 10 = ls.length
 | [], t, _, h => by rw [unl_nil]; exact List.count_eq_zero.2 h
 | l :: ls, t, h, ht => by
  rw [unl_cons, List.count_append, List.count_cons_self, unl_count ls t (fun x hx => h x (by simp [hx])) ht, List.count_eq_zero.2 (h l (by simp))]
  simp
theorem unl_length : ∀ (ls : List (List UInt8)) (t : List UInt8), ls.length ≤ (unl ls t).length
 | [], t => by simp
 | l :: ls, t => by
  have := unl_length ls t
  rw [unl_cons]; simp; omega
theorem unl_part : ∀ (ls : List (List UInt8)) (t : List UInt8), ∀ l ∈ ls, l.length ≤ (unl ls t).length
 | [], t, l, h => by cases h
 | x :: ls, t, l, h => by
  rw [unl_cons]
  simp only [List.length_append, List.length_cons]
  rcases List.mem_cons.1 h with rfl | h
  ·omega
  ·have := unl_part ls t l h
   omega
def goP : Nat → Mk → List (List UInt8) → List UInt8 → Mk × Int × Int
 | i, m, [], t => if t = [] then if i ≤ 2 then (Mk0, 4, i) else (m, 0, 0) else (Mk0, 2, i)
 | i, m, l :: ls, t => if (stepS i m (splitL [32] l)).2 = 0 then goP (i + 1) (stepS i m (splitL [32] l)).1 ls t else (Mk0, (stepS i m (splitL [32] l)).2, i)
def runS : Nat → Mk → List (List UInt8) → Option Mk
 | _, m, [] => some m
 | i, m, l :: ls => if (stepS i m (splitL [32] l)).2 = 0 then runS (i + 1) (stepS i m (splitL [32] l)).1 ls else none
theorem goP_run : ∀ (ls : List (List UInt8)) (i : Nat) (m m' : Mk) (l2 : List (List UInt8)) (t : List UInt8), runS i m ls = some m' → goP i m (ls ++ l2) t = goP (i + ls.length) m' l2 t
 | [], i, m, m', l2, t, h => by cases h; rfl
 | l :: ls, i, m, m', l2, t, h => by
  simp only [runS] at h
  split at h
  ·rename_i h0
   rw [List.cons_append, goP, if_pos h0, goP_run ls (i + 1) _ m' l2 t h]
   simp only [List.length_cons]
   congr 1
   omega
  ·cases h
def linesM (m : Mk) : List (List UInt8) := headLine m.a m.b m.c m.d :: sizesLine m.z :: m.p.map placeLine
def okM (m : Mk) : Prop := okH m.a m.b m.c m.d = true ∧ okZ m.z = true ∧ m.z.length ≤ 6 ∧ (∀ p ∈ m.p, okP p = true) ∧ m.p.length ≤ 60
def textM (m : Mk) : List UInt8 := unl (linesM m) []
theorem places_ok : ∀ (ps : List Pl) (i : Nat) (m : Mk), 3 ≤ i → (∀ p ∈ ps, okP p = true) → (m.p ++ ps).length ≤ 60 → runS i m (ps.map placeLine) = some ⟨m.a, m.b, m.c, m.d, m.z, m.p ++ ps⟩
 | [], i, m, _, _, _ => by rw [List.append_nil]; rfl
 | p :: ps, i, m, hi, hp, hl => by
  simp only [List.length_append, List.length_cons] at hl
  have h := place_ok m (hp p (by simp)) (by omega)
  have hs : stepS i m (splitL [32] (placeLine p)) = placeS m (splitL [32] (placeLine p)) := by unfold stepS; rw [if_neg (by omega), if_neg (by omega)]
  rw [List.map_cons, runS, hs, h, if_pos rfl, places_ok ps (i + 1) _ (by omega) (fun q hq => hp q (by simp [hq])) (by simp; omega)]
  simp
theorem run_ok {m : Mk} (h : okM m) : runS 1 Mk0 (linesM m) = some m := by
 obtain ⟨h1, h2, h3, h4, h5⟩ := h
 have e1 : stepS 1 Mk0 (splitL [32] (headLine m.a m.b m.c m.d)) = (⟨m.a, m.b, m.c, m.d, [], []⟩, 0) := head_ok Mk0 h1
 have e2 : stepS (1 + 1) ⟨m.a, m.b, m.c, m.d, [], []⟩ (splitL [32] (sizesLine m.z)) = (⟨m.a, m.b, m.c, m.d, m.z, []⟩, 0) := sizes_ok ⟨m.a, m.b, m.c, m.d, [], []⟩ h2 h3
 unfold linesM
 rw [runS, e1, if_pos rfl, runS, e2, if_pos rfl, places_ok m.p _ _ (by omega) h4 (by simpa using h5)]
 rfl
theorem lines_10 {m : Mk} (h : okM m) : ∀ l ∈ linesM m, (10 : UInt8) ∉ l := by
 obtain ⟨h1, h2, h3, h4, h5⟩ := h
 intro l hl
 unfold linesM at hl
 rcases List.mem_cons.1 hl with rfl | hl
 ·intro hm
  rcases List.mem_append.1 hm with hm | hm
  ·exact absurd hm (by decide)
  ·exact text_byte (all_in64 h1 (by omega) cM_le) (by decide) (by decide) (by decide) hm
 ·rcases List.mem_cons.1 hl with rfl | hl
  ·intro hm
   rcases List.mem_append.1 hm with hm | hm
   ·exact absurd hm (by decide)
   ·exact text_byte (all_in64 h2 (by omega) cM_le) (by decide) (by decide) (by decide) hm
  ·obtain ⟨p, hp, rfl⟩ := List.mem_map.1 hl
   have h6 := inP_in64 (okP_iff.1 (h4 p hp))
   intro hm
   unfold placeLine at hm
   rcases List.mem_append.1 hm with hm | hm
   ·rcases List.mem_append.1 hm with hm | hm
    ·rcases List.mem_append.1 hm with hm | hm
     ·exact absurd hm (by decide)
     ·exact text_byte (fun n hn => h6 n (by simp at hn ⊢; rcases hn with rfl | rfl | rfl <;> simp)) (by decide) (by decide) (by decide) hm
    ·unfold flipT at hm
     split at hm
     ·exact absurd hm (by decide)
     ·cases hm
   ·exact text_byte (fun n hn => h6 n (by simp at hn ⊢; rcases hn with rfl | rfl | rfl <;> simp)) (by decide) (by decide) (by decide) hm
theorem textM_size (m : Mk) (h : okM m) : (textM m).length ≤ 10000 := by
 obtain ⟨h1, h2, h3, h4, h5⟩ := h
 have hp : ∀ ps : List Pl, (unl (ps.map placeLine) []).length ≤ 160 * ps.length := by
  intro ps
  induction ps with
  | nil => simp [unl_nil]
  | cons p ps ih =>
   have e1 := textL_length [p.f0, p.f1, p.f2]
   have e2 := textL_length [p.f3.f1, p.f4.f0, p.f4.f1]
   have e3 : (flipT p.f3.f0).length ≤ 5 := by unfold flipT; split <;> decide
   have e4 : wPlace.length = 5 := rfl
   have e5 : (placeLine p).length ≤ 150 := by
    unfold placeLine
    simp only [List.length_append, List.length_cons, List.length_nil] at e1 e2 ⊢
    omega
   rw [List.map_cons, unl_cons]
   simp only [List.length_append, List.length_cons] at ih ⊢
   omega
 have e1 := textL_length [m.a, m.b, m.c, m.d]
 have e2 := textL_length m.z
 have e3 := hp m.p
 have e4 : wMarker.length = 6 := rfl
 have e5 : wSizes.length = 5 := rfl
 unfold textM linesM
 rw [unl_cons, unl_cons]
 unfold headLine sizesLine
 simp only [List.length_append, List.length_cons, List.length_nil] at e1 ⊢
 omega

end Go.Proofs.YtghnjnegcdbgnaaDoor
