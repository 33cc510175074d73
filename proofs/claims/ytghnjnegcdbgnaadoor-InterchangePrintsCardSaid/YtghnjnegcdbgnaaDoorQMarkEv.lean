/- What the functions on markers compute: the program's Print and Parse, and the law's small functions. -/
import Derived.Test.YtghnjnegcdbgnaaDoorQRun
import Derived.Test.YtghnjnegcdbgnaaDoorJ1
import Derived.Test.YtghnjnegcdbgnaaDoorJ3
namespace Go.Proofs.YtghnjnegcdbgnaaDoor
set_option linter.unusedVariables false
set_option linter.unusedSimpArgs false
open Go Go.RowKit P Go.Proofs.YtghnjnegcdbgnaaDoorW.PrintWords Go.Proofs.YtghnjnegcdbgnaaDoorW.PrintLast Go.Proofs.YtghnjnegcdbgnaaDoorW.PrintMore

abbrev Sp := S49
set_option maxRecDepth 100000 in
theorem awake_run : garmentlaw34_awake.f 60 = some true := by decide +kernel
theorem awake_ev : Ev garmentlaw34_awake.f true := Ev.of_mono garmentlaw34_awake.mono awake_run

def wiL (rs : List Sp) : Nat → List Int → Bool
 | _, [] => true
 | i, n :: t => inR (rd_T49 rs ((min i (rs.length - 1) : Nat) : Int)).f0 (rd_T49 rs ((min i (rs.length - 1) : Nat) : Int)).f1 n && wiL rs (i + 1) t
theorem holds_f (a b n : Int) : interchange_span_holds.f a b n = some (inR a b n) := by
 unfold interchange_span_holds.f inR
 by_cases h : a ≤ n
 ·rw [if_pos h, decide_eq_true h, Bool.true_and]
 ·rw [if_neg h, decide_eq_false h, Bool.false_and]
theorem mn_idx (i n : Nat) (h : 0 < n) (hb : n ≤ 1000000) : mn (i : Int) (wrap64 ((n : Int) - 1)) = ((min i (n - 1) : Nat) : Int) := by
 unfold mn wrap64
 split <;> omega
theorem within_ev (ns : List Int) (rs : List Sp) (h0 : 0 < rs.length) (h1 : rs.length ≤ 1000000) (h2 : ns.length ≤ 1000000000000) : Ev (fun k => interchange_within.f k ns rs) (wiL rs 0 ns) := by
 unfold interchange_within.f
 refine Ev.cast (up ns.length (fun i => Ev (fun k => interchange_within.l0 k rs ns (ns.length : Int) (i : Int)) (wiL rs i (ns.drop i))) ?_ ?_ 0 (Nat.zero_le _)) (by simp)
 ·refine Ev.succ ?_
  simp only [interchange_within.l0]
  refine Ev.neg (by omega) ?_
  rw [List.drop_length]
  exact Ev.pure _
 ·intro i hi ih
  refine Ev.succ ?_
  simp only [interchange_within.l0]
  rw [mn_idx i rs.length h0 h1]
  refine Ev.pos (by omega) (Ev.pos (by omega) (Ev.pos (by omega) (Ev.pos (by omega) (Ev.pos (by omega) (Ev.val (holds_f _ _ _) ?_)))))
  rw [rd_at ns i hi, List.drop_eq_getElem_cons hi, wiL]
  by_cases hr : inR (rd_T49 rs ((min i (rs.length - 1) : Nat) : Int)).f0 (rd_T49 rs ((min i (rs.length - 1) : Nat) : Int)).f1 ns[i] = true
  ·refine Ev.pos hr ?_
   rw [hr, Bool.true_and, wrap_succ (by omega)]
   exact ih
  ·refine Ev.neg hr ?_
   rw [Bool.eq_false_iff.2 hr, Bool.false_and]
   exact Ev.pure _
theorem wi_plain : ∀ (ns : List Int) (i : Nat), wiL [(⟨0, 1048576⟩ : Sp)] i ns = ns.all (inR 0 cM)
 | [], _ => rfl
 | n :: ns, i => by
  rw [wiL, wi_plain ns (i + 1), List.all_cons]
  have e : min i ([(⟨0, 1048576⟩ : Sp)].length - 1) = 0 := by simp
  rw [e]; rfl
def placedL : List Sp := [(⟨0, 1048576⟩ : Sp), (⟨0, 1048576⟩ : Sp), (⟨0, 1048576⟩ : Sp), (⟨0, 3⟩ : Sp), (⟨(-1048576), 1048576⟩ : Sp), (⟨(-1048576), 1048576⟩ : Sp)]
theorem wi_placed {ns : List Int} (h : ns.length = 6) : wiL placedL 0 ns = inP ns := by
 match ns, h with
 | [a, b, c, d, e, f], _ =>
  unfold inP
  simp only [wiL, List.take_succ_cons, List.take_zero, List.drop_succ_cons, List.drop_zero, List.all_cons, List.all_nil, Bool.and_true, placedL]
  simp [rd_T49, cM, Bool.and_assoc]
theorem plain_f : interchange_plain.f = some (0, 1048576) := rfl
theorem placed_f : interchange_placed.f = some placedL := rfl
theorem within_plain (ns : List Int) (h : ns.length ≤ 1000000000000) : Ev (fun k => interchange_within.f k ns ([(⟨0, 1048576⟩ : Sp)])) (ns.all (inR 0 cM)) :=
 Ev.cast (within_ev ns [(⟨0, 1048576⟩ : Sp)] (by decide) (by decide) h) (wi_plain ns 0)
theorem within_placed (ns : List Int) (h : ns.length = 6) : Ev (fun k => interchange_within.f k ns placedL) (inP ns) :=
 Ev.cast (within_ev ns placedL (by decide) (by decide) (by omega)) (wi_placed h)

def numsP (p : Pl) : List Int := [p.f0, p.f1, p.f2, p.f3.f1, p.f4.f0, p.f4.f1]
theorem numbers_f (p : Pl) : interchange_numbers.f p.f0 p.f1 p.f2 p.f3.f0 p.f3.f1 p.f4.f0 p.f4.f1 = some (numsP p) := rfl
def wfM (m : Mk) : Prop := (∀ n ∈ [m.a, m.b, m.c, m.d], in64 n = true) ∧ (∀ n ∈ m.z, in64 n = true) ∧ (∀ p ∈ m.p, ∀ n ∈ numsP p, in64 n = true)
theorem text_f (ns : List Int) (h : ∀ n ∈ ns, in64 n = true) (hl : ns.length ≤ 1000000) : interchange_text.f ns = some (bs (textL ns)) := by
 unfold interchange_text.f
 rw [if_pos ⟨hl, List.all_eq_true.2 h⟩]; rfl
def inM (m : Mk) : Bool := okH m.a m.b m.c m.d && okZ m.z && m.p.all okP
def printM (m : Mk) : List UInt8 × Int := if 6 < m.z.length ∨ 60 < m.p.length then ([], 5) else if inM m = true then (textM m, 0) else ([], 3)
theorem nums_inP (p : Pl) : inP (numsP p) = okP p := by
 rw [Bool.eq_iff_iff, okP_iff]; rfl
theorem print_ev (m : Mk) (hw : wfM m) (hz : m.z.length ≤ 1000) (hp : m.p.length ≤ 1000) : Ev (fun k => interchange_Print.f k m.a m.b m.c m.d m.z m.p) (bs (printM m).1, (printM m).2) := by
 obtain ⟨w1, w2, w3⟩ := hw
 unfold interchange_Print.f
 have long : 6 < m.z.length ∨ 60 < m.p.length → ∀ q : Bool, q = true → Ev (fun k => interchange_Print.j0 k q m.a m.b m.c m.d m.z m.p) (bs (printM m).1, (printM m).2) := by
  rintro h q rfl
  refine Ev.succ ?_
  simp only [interchange_Print.j0]
  unfold printM
  rw [if_pos h]
  exact Ev.pos trivial (Ev.pure _)
 by_cases h6 : (m.z.length : Int) > 6
 ·exact Ev.pos h6 (long (.inl (by omega)) _ rfl)
 ·refine Ev.neg h6 ?_
  by_cases h60 : (m.p.length : Int) > 60
  ·exact long (.inr (by omega)) _ (by simpa using h60)
  ·have hsh : ¬ (6 < m.z.length ∨ 60 < m.p.length) := by omega
   refine Ev.succ ?_
   simp only [interchange_Print.j0]
   refine Ev.neg (by simpa using h60) ?_
   simp only [Option.bind_some, plain_f]
   -- the loop over the places
   have loop : ∀ i, i ≤ m.p.length → Ev (fun k => interchange_Print.l0 k (okH m.a m.b m.c m.d && okZ m.z && (m.p.take i).all okP) (bs (headLine m.a m.b m.c m.d ++ 10 :: (sizesLine m.z ++ 10 :: unl ((m.p.take i).map placeLine) []))) m.p (m.p.length : Int) (i : Int)) (bs (printM m).1, (printM m).2) := by
    refine up m.p.length _ ?_ ?_
    ·refine Ev.succ ?_
     simp only [interchange_Print.l0]
     refine Ev.neg (by omega) ?_
     rw [List.take_length]
     unfold printM inM
     rw [if_neg hsh]
     by_cases hok : (okH m.a m.b m.c m.d && okZ m.z && m.p.all okP) = true
     ·refine Ev.cast (Ev.pos hok (Ev.pure _)) ?_
      simp only [if_pos hok]
      unfold textM linesM
      rw [unl_cons, unl_cons]
     ·refine Ev.cast (Ev.neg hok (Ev.pure _)) ?_
      simp only [if_neg hok]; rfl
    ·intro i hi ih
     have hrd : rd_T46 m.p (i : Int) = m.p[i] := by unfold rd_T46; simp [List.getD_eq_getElem?_getD, List.getElem?_eq_getElem hi]
     have h64 := w3 m.p[i] (List.getElem_mem hi)
     refine Ev.succ ?_
     simp only [interchange_Print.l0]
     rw [hrd]
     refine Ev.pos (by omega) (Ev.pos (by omega) (Ev.pos (by omega) (Ev.val (numbers_f _) ?_)))
     -- what follows, whatever the flag
     have hlen : (bs (headLine m.a m.b m.c m.d ++ 10 :: (sizesLine m.z ++ 10 :: unl ((m.p.take i).map placeLine) []))).size ≤ 1000000 := by
      have hp : ∀ ps : List Pl, (unl (ps.map placeLine) []).length ≤ 160 * ps.length := by
       intro ps
       induction ps with
       | nil => simp [unl_nil]
       | cons p ps ih =>
        have e1 := textL_length [p.f0, p.f1, p.f2]
        have e2 := textL_length [p.f3.f1, p.f4.f0, p.f4.f1]
        have e3 : (flipT p.f3.f0).length ≤ 5 := by unfold flipT; split <;> decide
        have e4 : wPlace.length = 5 := rfl
        have e5 : (placeLine p).length ≤ 150 := by
         unfold placeLine
         simp only [List.length_append, List.length_cons, List.length_nil] at e1 e2 ⊢
         omega
        rw [List.map_cons, unl_cons]
        simp only [List.length_append, List.length_cons] at ih ⊢
        omega
      have e1 := textL_length [m.a, m.b, m.c, m.d]
      have e2 := textL_length m.z
      have e3 := hp (m.p.take i)
      have e4 : wMarker.length = 6 := rfl
      have e5 : wSizes.length = 5 := rfl
      have e6 : (m.p.take i).length ≤ 1000 := by rw [List.length_take]; omega
      rw [bs_size]
      unfold headLine sizesLine
      simp only [List.length_append, List.length_cons, List.length_nil] at e1 ⊢
      omega
     have fl : ∀ (q : Bool) (fl : Bool), q = (okH m.a m.b m.c m.d && okZ m.z && (m.p.take (i + 1)).all okP) → fl = m.p[i].f3.f0 → Ev (fun k => interchange_Print.j4 k q (bs (headLine m.a m.b m.c m.d ++ 10 :: (sizesLine m.z ++ 10 :: unl ((m.p.take i).map placeLine) []))) (numsP m.p[i]) (bs (flipT fl)) m.p (m.p.length : Int) (i : Int)) (bs (printM m).1, (printM m).2) := by
      rintro q fl rfl rfl
      have e3 : (flipT m.p[i].f3.f0).length ≤ 5 := by unfold flipT; split <;> decide
      have t1 : interchange_text.f ((numsP m.p[i]).take 3) = some (bs (textL [m.p[i].f0, m.p[i].f1, m.p[i].f2])) :=
       text_f _ (fun n hn => h64 n (List.mem_of_mem_take hn)) (by simp [numsP])
      have t2 : interchange_text.f ((numsP m.p[i]).drop 3) = some (bs (textL [m.p[i].f3.f1, m.p[i].f4.f0, m.p[i].f4.f1])) :=
       text_f _ (fun n hn => h64 n (List.mem_of_mem_drop hn)) (by simp [numsP])
      have s1 := textL_length [m.p[i].f0, m.p[i].f1, m.p[i].f2]
      have s2 := textL_length [m.p[i].f3.f1, m.p[i].f4.f0, m.p[i].f4.f1]
      simp only [List.length_cons, List.length_nil] at s1 s2
      have z1 := bs_size (textL [m.p[i].f0, m.p[i].f1, m.p[i].f2])
      have z2 := bs_size (textL [m.p[i].f3.f1, m.p[i].f4.f0, m.p[i].f4.f1])
      have z3 := bs_size (flipT m.p[i].f3.f0)
      refine Ev.succ ?_
      simp only [interchange_Print.j4]
      refine Ev.pos (by simp [numsP]) (Ev.val t1 (Ev.pos (by omega) (Ev.pos (by omega) (Ev.val t2 (Ev.pos (by omega) (Ev.pos (by omega) (Ev.pos (by omega) ?_)))))))
      rw [wrap_succ (by omega)]
      have e10 : (⟨#[10]⟩ : ByteArray) = bs [10] := rfl
      have ePl : (⟨#[112, 108, 97, 99, 101]⟩ : ByteArray) = bs wPlace := rfl
      rw [e10, ePl, bs_append, bs_append, bs_append, bs_append, bs_append]
      have eu : headLine m.a m.b m.c m.d ++ 10 :: (sizesLine m.z ++ 10 :: unl ((m.p.take i).map placeLine) []) ++ (wPlace ++ textL [m.p[i].f0, m.p[i].f1, m.p[i].f2] ++ flipT m.p[i].f3.f0 ++ textL [m.p[i].f3.f1, m.p[i].f4.f0, m.p[i].f4.f1] ++ [10]) = headLine m.a m.b m.c m.d ++ 10 :: (sizesLine m.z ++ 10 :: unl ((m.p.take (i + 1)).map placeLine) []) := by
       rw [List.take_succ_eq_append_getElem hi, List.map_append, unl_append]
       have : unl ((m.p.take i).map placeLine) (unl ([m.p[i]].map placeLine) []) = unl ((m.p.take i).map placeLine) [] ++ (placeLine m.p[i] ++ [10]) := by
        unfold unl; simp
       rw [this]
       unfold placeLine
       simp
      rw [eu]
      exact ih
     have nx : ∀ q : Bool, q = (okH m.a m.b m.c m.d && okZ m.z && (m.p.take (i + 1)).all okP) → Ev (fun k => interchange_Print.j3 k q (bs (headLine m.a m.b m.c m.d ++ 10 :: (sizesLine m.z ++ 10 :: unl ((m.p.take i).map placeLine) []))) (numsP m.p[i]) m.p (m.p.length : Int) (i : Int) m.p[i].f0 m.p[i].f1 m.p[i].f2 m.p[i].f3.f0 m.p[i].f3.f1 m.p[i].f4.f0 m.p[i].f4.f1) (bs (printM m).1, (printM m).2) := by
      intro q hq
      refine Ev.succ ?_
      simp only [interchange_Print.j3]
      by_cases hf : m.p[i].f3.f0 = true
      ·exact Ev.pos hf (fl q true hq hf.symm)
      ·exact Ev.neg hf (fl q false hq (Bool.eq_false_iff.2 hf).symm)
     have ha : (m.p.take (i + 1)).all okP = ((m.p.take i).all okP && okP m.p[i]) := by
      rw [List.take_succ_eq_append_getElem hi, List.all_append]; simp
     by_cases hq : (okH m.a m.b m.c m.d && okZ m.z && (m.p.take i).all okP) = true
     ·refine Ev.pos hq (Ev.val placed_f (Ev.bind (within_placed _ rfl) ?_))
      rw [nums_inP]
      refine nx _ ?_
      rw [ha, ← Bool.and_assoc, hq, Bool.true_and]
     ·refine Ev.neg hq (nx _ ?_)
      rw [ha, ← Bool.and_assoc, Bool.eq_false_iff.2 hq, Bool.false_and]
   have start : ∀ q : Bool, q = (okH m.a m.b m.c m.d && okZ m.z) → Ev (fun k => interchange_Print.j1 k [m.a, m.b, m.c, m.d] q m.a m.b m.c m.d m.z m.p) (bs (printM m).1, (printM m).2) := by
    rintro q rfl
    have t1 : interchange_text.f [m.a, m.b, m.c, m.d] = some (bs (textL [m.a, m.b, m.c, m.d])) := text_f _ w1 (by simp)
    have t2 : interchange_text.f m.z = some (bs (textL m.z)) := text_f _ w2 (by omega)
    have s1 := textL_length [m.a, m.b, m.c, m.d]
    have s2 := textL_length m.z
    simp only [List.length_cons, List.length_nil] at s1
    have z1 := bs_size (textL [m.a, m.b, m.c, m.d])
    have z2 := bs_size (textL m.z)
    refine Ev.succ ?_
    simp only [interchange_Print.j1]
    refine Ev.val t1 (Ev.pos (by omega) (Ev.pos (by omega) (Ev.val t2 (Ev.pos (by omega) (Ev.pos (by omega) ?_)))))
    have e10 : (⟨#[10]⟩ : ByteArray) = bs [10] := rfl
    have eM : (⟨#[109, 97, 114, 107, 101, 114]⟩ : ByteArray) = bs wMarker := rfl
    have eS : (⟨#[10, 115, 105, 122, 101, 115]⟩ : ByteArray) = bs (10 :: wSizes) := rfl
    rw [e10, eM, eS, bs_append, bs_append, bs_append, bs_append]
    have := loop 0 (Nat.zero_le _)
    simp only [List.take_zero, List.all_nil, Bool.and_true, List.map_nil, unl_nil] at this
    have eu : wMarker ++ textL [m.a, m.b, m.c, m.d] ++ 10 :: wSizes ++ textL m.z ++ [10] = headLine m.a m.b m.c m.d ++ 10 :: (sizesLine m.z ++ [10]) := by
     unfold headLine sizesLine; simp
    rw [eu]
    exact this
   refine Ev.bind (within_plain [m.a, m.b, m.c, m.d] (by simp)) ?_
   by_cases hh : okH m.a m.b m.c m.d = true
   ·refine Ev.pos hh (Ev.bind (within_plain m.z (by omega)) (start _ ?_))
    rw [hh, Bool.true_and]; rfl
   ·refine Ev.neg hh (start _ ?_)
    rw [Bool.eq_false_iff.2 hh, Bool.false_and]

theorem number_f (w : List UInt8) (h : w.length ≤ 1000000) : interchange_number.f (bs w) = some (if formN w = true then (numV w, true) else (0, false)) := by
 unfold interchange_number.f
 rw [if_pos (by rw [bs_size]; omega), bs_data, numL_eq]
theorem read_ev (ws : List (List UInt8)) (hl : ws.length ≤ 1000000) (hw : ∀ w ∈ ws, w.length ≤ 1000000) : Ev (fun k => interchange_read.f k (ws.map bs)) (if ws.all formN = true then (ws.map numV, true) else ([], false)) := by
 unfold interchange_read.f
 have loop : ∀ i, i ≤ ws.length → Ev (fun k => interchange_read.l0 k ((ws.take i).map numV) (ws.map bs) ((ws.map bs).length : Int) (i : Int)) (if (ws.drop i).all formN = true then (ws.map numV, true) else ([], false)) := by
  refine up ws.length _ ?_ ?_
  ·refine Ev.succ ?_
   simp only [interchange_read.l0]
   refine Ev.neg (by simp) ?_
   rw [List.drop_length, List.take_length]
   exact Ev.pure _
  ·intro i hi ih
   refine Ev.succ ?_
   simp only [interchange_read.l0]
   have hb : i < (ws.map bs).length := by simpa using hi
   refine Ev.pos (by omega) (Ev.pos (by omega) (Ev.pos (by omega) ?_))
   rw [rdOf_at _ _ i hb]
   have hg : (ws.map bs)[i] = bs ws[i] := by simp
   rw [hg]
   refine Ev.val (number_f ws[i] (hw _ (List.getElem_mem hi))) ?_
   rw [List.drop_eq_getElem_cons hi, List.all_cons]
   by_cases hf : formN ws[i] = true
   ·rw [if_pos hf]
    refine Ev.pos rfl (Ev.pos (by simp <;> omega) ?_)
    rw [hf, Bool.true_and, wrap_succ (by omega)]
    rw [List.take_succ_eq_append_getElem hi, List.map_append] at ih
    exact ih
   ·rw [if_neg hf]
    refine Ev.neg (by simp) ?_
    rw [Bool.eq_false_iff.2 hf, Bool.false_and]
    exact Ev.pure _
 simpa using loop 0 (Nat.zero_le _)
def tup (x : Mk × Int) : Int × Int × Int × Int × List Int × List Pl × Int := (x.1.a, x.1.b, x.1.c, x.1.d, x.1.z, x.1.p, x.2)
theorem rd0 (w : List UInt8) (t : List (List UInt8)) : (rdOf ByteArray.empty ((w :: t).map bs) 0).toList = w := by
 have : rdOf ByteArray.empty ((w :: t).map bs) 0 = bs w := rfl
 rw [this, bs_toList]
theorem headS_cons (m : Mk) (w : List UInt8) (t : List (List UInt8)) : headS m (w :: t) = if w = wMarker ∧ t.all formN = true ∧ t.length = 4 then if (t.map numV).all (inR 0 cM) = true then (⟨rd (t.map numV) 0, rd (t.map numV) 1, rd (t.map numV) 2, rd (t.map numV) 3, m.z, m.p⟩, 0) else (m, 3) else (m, 2) := by
 unfold headS
 by_cases h : w = wMarker ∧ t.all formN = true ∧ t.length = 4
 ·rw [if_pos h, if_pos ⟨congrArg some h.1, h.2⟩]; rfl
 ·rw [if_neg h, if_neg (fun hh => h ⟨Option.some.inj hh.1, hh.2⟩)]
theorem sizesS_cons (m : Mk) (w : List UInt8) (t : List (List UInt8)) : sizesS m (w :: t) = if w = wSizes ∧ t.all formN = true then if (t.map numV).all (inR 0 cM) = true then if 6 < t.length then (m, 5) else (⟨m.a, m.b, m.c, m.d, t.map numV, m.p⟩, 0) else (m, 3) else (m, 2) := by
 unfold sizesS
 by_cases h : w = wSizes ∧ t.all formN = true
 ·rw [if_pos h, if_pos ⟨congrArg some h.1, h.2⟩]; rfl
 ·rw [if_neg h, if_neg (fun hh => h ⟨Option.some.inj hh.1, hh.2⟩)]
theorem head_ev (m : Mk) (w : List UInt8) (t : List (List UInt8)) (hl : t.length ≤ 1000000) (hw : ∀ x ∈ t, x.length ≤ 1000000) : Ev (fun k => interchange_head.f k m.a m.b m.c m.d m.z m.p ((w :: t).map bs)) (tup (headS m (w :: t))) := by
 unfold interchange_head.f
 rw [headS_cons]
 refine Ev.pos (by simp <;> omega) (Ev.bind (read_ev t hl hw) (Ev.pos (by simp <;> omega) ?_))
 have bad : ∀ (n : List Int) (q : Bool), q = true → ¬ (w = wMarker ∧ t.all formN = true ∧ t.length = 4) → Ev (fun k => interchange_head.j0 k n q m.a m.b m.c m.d m.z m.p) (tup (if w = wMarker ∧ t.all formN = true ∧ t.length = 4 then if (t.map numV).all (inR 0 cM) = true then (⟨rd (t.map numV) 0, rd (t.map numV) 1, rd (t.map numV) 2, rd (t.map numV) 3, m.z, m.p⟩, 0) else (m, 3) else (m, 2))) := by
  rintro n q rfl hn
  refine Ev.succ ?_
  simp only [interchange_head.j0]
  rw [if_neg hn]
  exact Ev.pos trivial (Ev.pure _)
 rw [rd0]
 by_cases h1 : w = wMarker
 ·refine Ev.pos h1 ?_
  by_cases h2 : t.all formN = true
  ·rw [if_pos h2]
   refine Ev.pos rfl ?_
   by_cases h3 : t.length = 4
   ·rw [if_pos ⟨h1, h2, h3⟩]
    refine Ev.succ ?_
    simp only [interchange_head.j0]
    refine Ev.neg (by simp [h3]) (Ev.val plain_f (Ev.bind (within_plain _ (by simp <;> omega)) ?_))
    by_cases h4 : (t.map numV).all (inR 0 cM) = true
    ·exact Ev.cast (Ev.pos h4 (Ev.pos (by simp [h3]) (Ev.pos (by simp [h3]) (Ev.pos (by simp [h3]) (Ev.pos (by simp [h3]) (Ev.pure _)))))) (by rw [if_pos h4]; rfl)
    ·exact Ev.cast (Ev.neg h4 (Ev.pure _)) (by rw [if_neg h4]; rfl)
   ·exact bad _ _ (by simp <;> omega) (fun h => h3 h.2.2)
  ·rw [if_neg h2]
   exact Ev.neg (by simp) (bad _ _ rfl (fun h => h2 h.2.1))
 ·exact Ev.neg h1 (bad _ _ rfl (fun h => h1 h.1))
theorem sizes_ev (m : Mk) (w : List UInt8) (t : List (List UInt8)) (hl : t.length ≤ 1000000) (hw : ∀ x ∈ t, x.length ≤ 1000000) : Ev (fun k => interchange_sizes.f k m.a m.b m.c m.d m.z m.p ((w :: t).map bs)) (tup (sizesS m (w :: t))) := by
 unfold interchange_sizes.f
 rw [sizesS_cons]
 refine Ev.pos (by simp <;> omega) (Ev.bind (read_ev t hl hw) (Ev.pos (by simp <;> omega) ?_))
 have bad : ∀ (n : List Int) (q : Bool), q = true → ¬ (w = wSizes ∧ t.all formN = true) → Ev (fun k => interchange_sizes.j0 k n q m.a m.b m.c m.d m.z m.p) (tup (if w = wSizes ∧ t.all formN = true then if (t.map numV).all (inR 0 cM) = true then if 6 < t.length then (m, 5) else (⟨m.a, m.b, m.c, m.d, t.map numV, m.p⟩, 0) else (m, 3) else (m, 2))) := by
  rintro n q rfl hn
  refine Ev.succ ?_
  simp only [interchange_sizes.j0]
  rw [if_neg hn]
  exact Ev.pos trivial (Ev.pure _)
 rw [rd0]
 by_cases h1 : w = wSizes
 ·refine Ev.pos h1 ?_
  by_cases h2 : t.all formN = true
  ·rw [if_pos h2, if_pos ⟨h1, h2⟩]
   refine Ev.succ ?_
   simp only [interchange_sizes.j0]
   refine Ev.neg (by simp) (Ev.val plain_f (Ev.bind (within_plain _ (by simp <;> omega)) ?_))
   by_cases h4 : (t.map numV).all (inR 0 cM) = true
   ·refine Ev.pos h4 ?_
    by_cases h5 : 6 < t.length
    ·exact Ev.cast (Ev.pos (by simp <;> omega) (Ev.pure _)) (by rw [if_pos h4, if_pos h5]; rfl)
    ·exact Ev.cast (Ev.neg (by simp <;> omega) (Ev.pure _)) (by rw [if_pos h4, if_neg h5]; rfl)
   ·exact Ev.cast (Ev.neg h4 (Ev.pure _)) (by rw [if_neg h4]; rfl)
  ·rw [if_neg h2]
   exact bad _ _ rfl (fun h => h2 h.2)
 ·exact Ev.neg h1 (bad _ _ rfl (fun h => h1 h.1))
end Go.Proofs.YtghnjnegcdbgnaaDoor
