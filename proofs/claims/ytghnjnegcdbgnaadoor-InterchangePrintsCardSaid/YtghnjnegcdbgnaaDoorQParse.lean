/- What Parse and the law's small functions compute. -/
import Derived.Test.YtghnjnegcdbgnaaDoorQMarkEv
import Derived.Test.YtghnjnegcdbgnaaDoorJ4
import Derived.Test.YtghnjnegcdbgnaaDoorJ5
namespace Go.Proofs.YtghnjnegcdbgnaaDoor
set_option linter.unusedVariables false
set_option linter.unusedSimpArgs false
open Go Go.RowKit P Go.Proofs.YtghnjnegcdbgnaaDoorW.PrintWords Go.Proofs.YtghnjnegcdbgnaaDoorW.PrintLast Go.Proofs.YtghnjnegcdbgnaaDoorW.PrintMore

theorem placeS_cons (m : Mk) (w : List UInt8) (t : List (List UInt8)) : placeS m (w :: t) = if w = wPlace ∧ (restS (w :: t)).all formN = true ∧ (restS (w :: t)).length = 6 then if inP ((restS (w :: t)).map numV) = true then if m.p.length = 60 then (m, 5) else (⟨m.a, m.b, m.c, m.d, m.z, m.p ++ [mkP (flipS (w :: t)) ((restS (w :: t)).map numV)]⟩, 0) else (m, 3) else (m, 2) := by
 unfold placeS
 by_cases h : w = wPlace ∧ (restS (w :: t)).all formN = true ∧ (restS (w :: t)).length = 6
 ·rw [if_pos h, if_pos ⟨congrArg some h.1, h.2⟩]
 ·rw [if_neg h, if_neg (fun hh => h ⟨Option.some.inj hh.1, hh.2⟩)]
theorem restS_mem {ws : List (List UInt8)} : ∀ x ∈ restS ws, x ∈ ws := by
 intro x hx
 unfold restS at hx
 split at hx
 ·rcases List.mem_append.1 hx with hx | hx
  ·exact List.mem_of_mem_take (List.mem_of_mem_drop hx)
  ·exact List.mem_of_mem_drop hx
 ·exact List.mem_of_mem_tail hx
theorem restS_len (ws : List (List UInt8)) : (restS ws).length ≤ ws.length + ws.length := by
 unfold restS
 split <;> simp <;> omega
theorem place_bad1 (m : Mk) (w : List UInt8) (t : List (List UInt8)) (n : List Int) (f q : Bool) (hq : q = true) (h : ¬ (w = wPlace ∧ (restS (w :: t)).all formN = true ∧ (restS (w :: t)).length = 6)) : Ev (fun k => interchange_place.j1 k f n q m.a m.b m.c m.d m.z m.p) (tup (placeS m (w :: t))) := by
 subst hq
 rw [placeS_cons, if_neg h]
 refine Ev.succ ?_
 simp only [interchange_place.j1]
 exact Ev.pos trivial (Ev.pure _)
theorem place_good1 (m : Mk) (w : List UInt8) (t : List (List UInt8)) (f q : Bool) (hf : f = flipS (w :: t)) (hq : q = false) (h : w = wPlace ∧ (restS (w :: t)).all formN = true ∧ (restS (w :: t)).length = 6) (hm : m.p.length ≤ 1000) : Ev (fun k => interchange_place.j1 k f ((restS (w :: t)).map numV) q m.a m.b m.c m.d m.z m.p) (tup (placeS m (w :: t))) := by
 subst hf
 subst hq
 have hl : ((restS (w :: t)).map numV).length = 6 := by rw [List.length_map]; exact h.2.2
 rw [placeS_cons, if_pos h]
 refine Ev.succ ?_
 simp only [interchange_place.j1]
 refine Ev.neg (by simp) (Ev.val placed_f (Ev.bind (within_placed _ hl) ?_))
 by_cases h4 : inP ((restS (w :: t)).map numV) = true
 ·refine Ev.pos h4 ?_
  by_cases h5 : m.p.length = 60
  ·exact Ev.cast (Ev.pos (by omega) (Ev.pure _)) (by rw [if_pos h4, if_pos h5]; rfl)
  ·exact Ev.cast (Ev.neg (by omega) (Ev.pos (by omega) (Ev.pos (by omega) (Ev.pos (by omega) (Ev.pos (by omega) (Ev.pos (by omega) (Ev.pos (by omega) (Ev.pos (by omega) (Ev.pure _))))))))) (by rw [if_pos h4, if_neg h5]; rfl)
 ·exact Ev.cast (Ev.neg h4 (Ev.pure _)) (by rw [if_neg h4]; rfl)
theorem place_bad2 (m : Mk) (w : List UInt8) (t : List (List UInt8)) (n : List Int) (f q : Bool) (hq : q = true) (h : ¬ (w = wPlace ∧ (restS (w :: t)).all formN = true ∧ (restS (w :: t)).length = 6)) : Ev (fun k => interchange_place.j2 k f n q m.a m.b m.c m.d m.z m.p) (tup (placeS m (w :: t))) := by
 subst hq
 rw [placeS_cons, if_neg h]
 refine Ev.succ ?_
 simp only [interchange_place.j2]
 exact Ev.pos trivial (Ev.pure _)
theorem place_good2 (m : Mk) (w : List UInt8) (t : List (List UInt8)) (f q : Bool) (hf : f = flipS (w :: t)) (hq : q = false) (h : w = wPlace ∧ (restS (w :: t)).all formN = true ∧ (restS (w :: t)).length = 6) (hm : m.p.length ≤ 1000) : Ev (fun k => interchange_place.j2 k f ((restS (w :: t)).map numV) q m.a m.b m.c m.d m.z m.p) (tup (placeS m (w :: t))) := by
 subst hf
 subst hq
 have hl : ((restS (w :: t)).map numV).length = 6 := by rw [List.length_map]; exact h.2.2
 rw [placeS_cons, if_pos h]
 refine Ev.succ ?_
 simp only [interchange_place.j2]
 refine Ev.neg (by simp) (Ev.val placed_f (Ev.bind (within_placed _ hl) ?_))
 by_cases h4 : inP ((restS (w :: t)).map numV) = true
 ·refine Ev.pos h4 ?_
  by_cases h5 : m.p.length = 60
  ·exact Ev.cast (Ev.pos (by omega) (Ev.pure _)) (by rw [if_pos h4, if_pos h5]; rfl)
  ·exact Ev.cast (Ev.neg (by omega) (Ev.pos (by omega) (Ev.pos (by omega) (Ev.pos (by omega) (Ev.pos (by omega) (Ev.pos (by omega) (Ev.pos (by omega) (Ev.pos (by omega) (Ev.pure _))))))))) (by rw [if_pos h4, if_neg h5]; rfl)
 ·exact Ev.cast (Ev.neg h4 (Ev.pure _)) (by rw [if_neg h4]; rfl)
theorem place_ev (m : Mk) (w : List UInt8) (t : List (List UInt8)) (hl : t.length ≤ 100000) (hw : ∀ x ∈ w :: t, x.length ≤ 1000000) (hm : m.p.length ≤ 1000) : Ev (fun k => interchange_place.f k m.a m.b m.c m.d m.z m.p ((w :: t).map bs)) (tup (placeS m (w :: t))) := by
 unfold interchange_place.f
 have hrl := restS_len (w :: t)
 simp only [List.length_cons] at hrl
 have hread := read_ev (restS (w :: t)) (by omega) (fun x hx => hw x (restS_mem x hx))
 have key : ∀ q : Bool, q = flipS (w :: t) → Ev (fun k => interchange_place.j0 k ((w :: t).map bs) q m.a m.b m.c m.d m.z m.p) (tup (placeS m (w :: t))) := by
  intro q hq
  refine Ev.succ ?_
  simp only [interchange_place.j0]
  refine Ev.pos (by simp <;> omega) ?_
  cases hf : q with
  | true =>
   rw [hf] at hq
   have h8 : t.length = 7 := by
    have := of_decide_eq_true hq.symm
    simpa using this.1
   have hr : restS (w :: t) = ((w :: t).take 4).drop 1 ++ (w :: t).drop 5 := by unfold restS; rw [if_pos hq.symm]
   have hrm : ([] ++ List.drop 1 (List.take 4 ((w :: t).map bs))) ++ List.drop 5 ((w :: t).map bs) = (restS (w :: t)).map bs := by
    rw [hr]; simp
   refine Ev.pos rfl ?_
   simp only [Option.bind_some]
   refine Ev.pos (by decide) (Ev.pos (by simp <;> omega) (Ev.pos (by simp <;> omega) (Ev.pos (by simp <;> omega) (Ev.pos (by simp <;> omega) ?_))))
   rw [hrm]
   refine Ev.bind hread (Ev.pos (by simp <;> omega) ?_)
   rw [rd0]
   by_cases h1 : w = wPlace
   ·refine Ev.pos h1 ?_
    by_cases h2 : (restS (w :: t)).all formN = true
    ·rw [if_pos h2]
     refine Ev.pos rfl ?_
     by_cases h3 : (restS (w :: t)).length = 6
     ·exact place_good1 m w t _ _ hq (by simp [h3]) ⟨h1, h2, h3⟩ hm
     ·exact place_bad1 m w t _ _ _ (by simp <;> omega) (fun h => h3 h.2.2)
    ·rw [if_neg h2]
     exact Ev.neg (by simp) (place_bad1 m w t _ _ _ rfl (fun h => h2 h.2.1))
   ·exact Ev.neg h1 (place_bad1 m w t _ _ _ rfl (fun h => h1 h.1))
  | false =>
   rw [hf] at hq
   have hr : restS (w :: t) = t := by unfold restS; rw [← hq]; rfl
   have hrm : List.drop 1 ((w :: t).map bs) = (restS (w :: t)).map bs := by
    rw [hr]; rfl
   refine Ev.neg (by simp) ?_
   rw [hrm]
   refine Ev.bind hread (Ev.pos (by simp <;> omega) ?_)
   rw [rd0]
   by_cases h1 : w = wPlace
   ·refine Ev.pos h1 ?_
    by_cases h2 : (restS (w :: t)).all formN = true
    ·rw [if_pos h2]
     refine Ev.pos rfl ?_
     by_cases h3 : (restS (w :: t)).length = 6
     ·exact place_good2 m w t _ _ hq (by simp [h3]) ⟨h1, h2, h3⟩ hm
     ·exact place_bad2 m w t _ _ _ (by simp <;> omega) (fun h => h3 h.2.2)
    ·rw [if_neg h2]
     exact Ev.neg (by simp) (place_bad2 m w t _ _ _ rfl (fun h => h2 h.2.1))
   ·exact Ev.neg h1 (place_bad2 m w t _ _ _ rfl (fun h => h1 h.1))
 by_cases h8 : t.length = 7
 ·refine Ev.pos (by simp <;> omega) (Ev.pos (by simp <;> omega) (key _ ?_))
  have h4 : 4 < (w :: t).length := by simp; omega
  have hrd : rdOf ByteArray.empty ((w :: t).map bs) 4 = bs ((w :: t)[4]'h4) := by
   have := rdOf_at ByteArray.empty ((w :: t).map bs) 4 (by simpa using h4)
   rw [List.getElem_map] at this
   exact this
  rw [hrd, bs_toList, Bool.eq_iff_iff]
  unfold flipS
  rw [decide_eq_true_iff, List.getElem?_eq_getElem h4]
  simp only [beq_iff_eq, Option.some.injEq]
  constructor
  ·intro h; exact ⟨by simp; omega, h⟩
  ·intro h; exact h.2
 ·refine Ev.neg (by simp <;> omega) (key _ ?_)
  unfold flipS
  rw [decide_eq_false]
  rintro ⟨h, _⟩
  simp at h; omega

theorem cut_f (l r : List UInt8) (c : UInt8) (hl : c ∉ l) (hs : (l ++ c :: r).length < 4294967281) : strings_Cut.f (bs (l ++ c :: r)) (bs [c]) = some (bs l, bs r, true) := by
 unfold strings_Cut.f
 rw [if_pos (by rw [bs_size]; exact hs), bs_data, bs_data, cut_hit c l r hl]; rfl
theorem cut_f0 (l : List UInt8) (c : UInt8) (hl : c ∉ l) (hs : l.length < 4294967281) : strings_Cut.f (bs l) (bs [c]) = some (bs l, bs [], false) := by
 unfold strings_Cut.f
 rw [if_pos (by rw [bs_size]; exact hs), bs_data, bs_data, cut_miss c l hl]; rfl
theorem split_f (l : List UInt8) (c : UInt8) (hs : l.length < 4294967281) : strings_Split.f (bs l) (bs [c]) = some ((splitL [c] l).map bs) := by
 unfold strings_Split.f pieces
 rw [if_pos ⟨by rw [bs_size]; exact hs, by rw [bs_size]; simp⟩, bs_data, bs_data]; rfl
theorem split_parts (c : UInt8) (l : List UInt8) : (splitL [c] l).length ≤ l.length + 1 ∧ ∀ x ∈ splitL [c] l, x.length ≤ l.length := by
 have hj := join_split [c] (by simp) l.length l (Nat.le_refl _)
 have h1 : ∀ L : List (List UInt8), L.length ≤ (Lib.join L [c]).length + 1 := by
  intro L
  induction L with
  | nil => simp
  | cons y r ih =>
   cases r with
   | nil => simp
   | cons z r =>
    rw [joinL_cons [c] y (l := z :: r) (by simp)]
    simp only [List.length_append, List.length_cons] at ih ⊢
    omega
 have h2 : ∀ L : List (List UInt8), ∀ x ∈ L, x.length ≤ (Lib.join L [c]).length := by
  intro L
  induction L with
  | nil => intro x hx; cases hx
  | cons y r ih =>
   intro x hx
   cases r with
   | nil =>
    rw [Lib.join_one]
    rw [List.mem_singleton.1 hx]
    exact Nat.le_refl _
   | cons z r =>
    rw [joinL_cons [c] y (l := z :: r) (by simp)]
    simp only [List.length_append]
    rcases List.mem_cons.1 hx with rfl | hx
    ·omega
    ·have := ih x hx; omega
 refine ⟨?_, fun x hx => ?_⟩
 ·have := h1 (splitL [c] l); rw [hj] at this; exact this
 ·have := h2 _ x hx; rw [hj] at this; exact this
theorem step_len (i : Nat) (m : Mk) (ws : List (List UInt8)) (h : m.p.length ≤ 60) : (stepS i m ws).1.p.length ≤ 60 := by
 unfold stepS
 split
 ·unfold headS; split <;> (try split) <;> simpa using h
 ·split
  ·unfold sizesS; split <;> (try split) <;> (try split) <;> simpa using h
  ·unfold placeS
   split
   ·split
    ·split
     ·exact h
     ·simp; omega
    ·exact h
   ·exact h
def res (x : Mk × Int × Int) : Int × Int × Int × Int × List Int × List Pl × Int × Int := (x.1.a, x.1.b, x.1.c, x.1.d, x.1.z, x.1.p, x.2.1, x.2.2)
theorem parse_loop : ∀ (ls : List (List UInt8)) (i : Nat) (m : Mk) (t : List UInt8), (∀ l ∈ ls, (10 : UInt8) ∉ l) → (10 : UInt8) ∉ t → 1 ≤ i → i + ls.length ≤ 1000000 → (unl ls t).length ≤ 20000 → m.p.length ≤ 60 →
  Ev (fun k => interchange_Parse.l0 k (bs (unl ls t)) (i : Int) m.a m.b m.c m.d m.z m.p) (res (goP i m ls t))
 | [], i, m, t, _, ht, hi, hb, hs, hm => by
  refine Ev.succ ?_
  simp only [interchange_Parse.l0]
  rw [unl_nil] at hs ⊢
  rw [bs_toList, goP]
  by_cases h0 : t = []
  ·subst h0
   refine Ev.pos rfl (Ev.succ ?_)
   simp only [interchange_Parse.j1]
   by_cases h2 : i ≤ 2
   ·exact Ev.cast (Ev.pos (by simp <;> omega) (Ev.pos (bs_toList []) (Ev.pure _))) (by simp only [if_true, if_pos h2]; rfl)
   ·exact Ev.cast (Ev.neg (by simp <;> omega) (Ev.pure _)) (by simp only [if_true, if_neg h2]; rfl)
  ·rw [if_neg h0]
   refine Ev.neg h0 (Ev.succ ?_)
   simp only [interchange_Parse.j1]
   refine Ev.pos trivial (Ev.neg (by rw [bs_toList]; exact h0) (Ev.val (cut_f0 t 10 ht (by omega)) (Ev.neg (by simp) (Ev.pure _))))
 | l :: ls, i, m, t, hls, ht, hi, hb, hs, hm => by
  have hl := hls l (by simp)
  have hpart := unl_part (l :: ls) t l (by simp)
  rw [unl_cons] at hs ⊢
  have hs2 : (unl ls t).length ≤ 20000 := by simp only [List.length_append, List.length_cons] at hs; omega
  simp only [List.length_cons] at hb
  obtain ⟨p1, p2⟩ := split_parts 32 l
  have hll : l.length ≤ 20000 := by simp only [List.length_append] at hs; omega
  have hne : (bs (l ++ 10 :: unl ls t)).toList ≠ [] := by rw [bs_toList]; simp
  refine Ev.succ ?_
  simp only [interchange_Parse.l0]
  refine Ev.neg hne (Ev.succ ?_)
  simp only [interchange_Parse.j1]
  refine Ev.pos trivial (Ev.neg hne (Ev.val (cut_f l (unl ls t) 10 hl (by omega)) (Ev.pos rfl (Ev.val (split_f l 32 (by omega)) ?_))))
  have hgo : goP i m (l :: ls) t = if (stepS i m (splitL [32] l)).2 = 0 then goP (i + 1) (stepS i m (splitL [32] l)).1 ls t else (Mk0, (stepS i m (splitL [32] l)).2, (i : Int)) := rfl
  have hsl := step_len i m (splitL [32] l) hm
  have nx : ∀ x : Mk × Int, x = stepS i m (splitL [32] l) → Ev (fun k => interchange_Parse.j2 k (i : Int) (bs (unl ls t)) x.2 x.1.a x.1.b x.1.c x.1.d x.1.z x.1.p) (res (goP i m (l :: ls) t)) := by
   intro x hx
   rw [hgo, ← hx]
   rw [← hx] at hsl
   refine Ev.succ ?_
   simp only [interchange_Parse.j2]
   by_cases he : x.2 = 0
   ·refine Ev.pos he ?_
    rw [if_pos he, wrap_succ (by omega)]
    exact parse_loop ls (i + 1) x.1 t (fun y hy => hls y (by simp [hy])) ht (by omega) (by omega) hs2 hsl
   ·exact Ev.cast (Ev.neg he (Ev.pure _)) (by rw [if_neg he]; rfl)
  have hst : ∀ ws, stepS i m ws = if i = 1 then headS m ws else if i = 2 then sizesS m ws else placeS m ws := fun _ => rfl
  cases hw : splitL [32] l with
  | nil => exact absurd hw (splitL_ne _ _)
  | cons w tl =>
   rw [hw] at nx p1 p2
   rw [hst] at nx
   simp only [List.length_cons] at p1
   by_cases h1 : i = 1
   ·rw [if_pos h1] at nx
    exact Ev.pos (by omega) (Ev.bind (head_ev m w tl (by omega) (fun x hx => by have := p2 x (by simp [hx]); omega)) (nx _ rfl))
   ·refine Ev.neg (by omega) ?_
    rw [if_neg h1] at nx
    by_cases h2 : i = 2
    ·rw [if_pos h2] at nx
     exact Ev.pos (by omega) (Ev.bind (sizes_ev m w tl (by omega) (fun x hx => by have := p2 x (by simp [hx]); omega)) (nx _ rfl))
    ·rw [if_neg h2] at nx
     exact Ev.neg (by omega) (Ev.bind (place_ev m w tl (by omega) (fun x hx => by have := p2 x hx; omega) (by omega)) (nx _ rfl))
theorem parse_ev (ls : List (List UInt8)) (t : List UInt8) (hls : ∀ l ∈ ls, (10 : UInt8) ∉ l) (ht : (10 : UInt8) ∉ t) (hs : (unl ls t).length ≤ 20000) : Ev (fun k => interchange_Parse.f k (bs (unl ls t))) (res (goP 1 Mk0 ls t)) := by
 unfold interchange_Parse.f
 have := unl_length ls t
 refine Ev.neg (by rw [bs_size]; omega) ?_
 exact parse_loop ls 1 Mk0 t hls ht (by omega) (by omega) hs (by simp [Mk0])
theorem same_ev (m : Mk) (hz : m.z.length ≤ 1000000) (hp : m.p.length ≤ 1000000) : Ev (fun k => garmentref34_Same.f k m.a m.b m.c m.d m.z m.p m.a m.b m.c m.d m.z m.p) true := by
 unfold garmentref34_Same.f
 have l1 : ∀ i, i ≤ m.p.length → Ev (fun k => garmentref34_Same.l1 k (i : Int) m.a m.b m.c m.d m.z m.p m.a m.b m.c m.d m.z m.p) true := by
  refine up m.p.length _ ?_ ?_
  ·refine Ev.succ ?_
   simp only [garmentref34_Same.l1]
   exact Ev.neg (by omega) (Ev.pure _)
  ·intro i hi ih
   refine Ev.succ ?_
   simp only [garmentref34_Same.l1]
   refine Ev.pos (by omega) (Ev.pos (by omega) (Ev.pos (by omega) (Ev.neg (by simp) ?_)))
   rw [wrap_succ (by omega)]
   exact ih
 have l0 : ∀ i, i ≤ m.z.length → Ev (fun k => garmentref34_Same.l0 k (i : Int) m.a m.b m.c m.d m.z m.p m.a m.b m.c m.d m.z m.p) true := by
  refine up m.z.length _ ?_ ?_
  ·refine Ev.succ ?_
   simp only [garmentref34_Same.l0]
   exact Ev.neg (by omega) (l1 0 (Nat.zero_le _))
  ·intro i hi ih
   refine Ev.succ ?_
   simp only [garmentref34_Same.l0]
   refine Ev.pos (by omega) (Ev.pos (by omega) (Ev.pos (by omega) (Ev.pos (by first | trivial | rfl) ?_)))
   rw [wrap_succ (by omega)]
   exact ih
 have j0 : ∀ q : Bool, q = false → Ev (fun k => garmentref34_Same.j0 k q m.a m.b m.c m.d m.z m.p m.a m.b m.c m.d m.z m.p) true := by
  rintro q rfl
  refine Ev.succ ?_
  simp only [garmentref34_Same.j0]
  exact Ev.neg (by simp) (l0 0 (Nat.zero_le _))
 repeat (first | exact j0 _ (by simp) | refine Ev.pos rfl ?_ | refine Ev.neg (by simp) ?_)
theorem lines_ev (s : List UInt8) (hs : s.length ≤ 1000000000) : Ev (fun k => garmentlaw34_lines.f k (bs s)) ((s.count 10 : Nat) : Int) := by
 unfold garmentlaw34_lines.f
 have loop : ∀ i, i ≤ s.length → Ev (fun k => garmentlaw34_lines.l0 k (bs s) (((s.take i).count 10 : Nat) : Int) (i : Int)) ((s.count 10 : Nat) : Int) := by
  refine up s.length _ ?_ ?_
  ·refine Ev.succ ?_
   simp only [garmentlaw34_lines.l0]
   refine Ev.neg (by rw [bs_size]; omega) ?_
   rw [List.take_length]
   exact Ev.pure _
  ·intro i hi ih
   have hc : (s.take i).count 10 ≤ i := Nat.le_trans List.count_le_length (by rw [List.length_take]; omega)
   refine Ev.succ ?_
   simp only [garmentlaw34_lines.l0]
   refine Ev.pos (by rw [bs_size]; omega) (Ev.pos (by omega) ?_)
   rw [bs_get s i hi]
   rw [List.take_succ_eq_append_getElem hi, List.count_append] at ih
   by_cases h10 : s[i] = 10
   ·refine Ev.pos (by rw [h10]; rfl) ?_
    rw [wrap_succ (by omega), wrap_succ (by omega)]
    rw [h10] at ih
    exact ih
   ·refine Ev.neg (fun h => h10 (u8_ext (by have h4 : (10 : UInt8).toNat = 10 := rfl; omega))) ?_
    rw [wrap_succ (by omega)]
    have e : ([s[i]] : List UInt8).count 10 = 0 := List.count_eq_zero.2 (by simpa using fun h : (10 : UInt8) = s[i] => h10 h.symm)
    rw [e, Nat.add_zero] at ih
    exact ih
 simpa using loop 0 (Nat.zero_le _)
end Go.Proofs.YtghnjnegcdbgnaaDoor
