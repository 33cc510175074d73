/- What the reference's Print computes: the same text. -/
import Derived.Test.YtghnjnegcdbgnaaDoorQPuInterchangeRoundTrip
import Derived.Test.YtghnjnegcdbgnaaDoorJ4
namespace Go.Proofs.YtghnjnegcdbgnaaDoor
set_option linter.unusedVariables false
set_option linter.unusedSimpArgs false
open Go Go.RowKit P Go.Proofs.YtghnjnegcdbgnaaDoorW.PrintWords Go.Proofs.YtghnjnegcdbgnaaDoorW.PrintLast Go.Proofs.YtghnjnegcdbgnaaDoorW.PrintMore

theorem itoa_len (n : Int) : (bs (itoaL n)).size ≤ 21 := by rw [bs_size]; exact itoaL_length n
theorem digit_bs (m : Nat) (h : m < 10) : strOfNums (([(wrap64 (48 + (m : Int))) % 256] : List Int)) = bs [UInt8.ofNat (48 + m)] := by
 have e : (wrap64 (48 + (m : Int))) % 256 = ((48 + m : Nat) : Int) := by unfold wrap64; omega
 rw [e]
 apply ba_ext
 rw [bs_data]
 show [UInt8.ofNat (((48 + m : Nat) : Int)).toNat] = _
 rw [Int.toNat_natCast]
theorem rnum_nat : ∀ m : Nat, m ≤ 4194304 → Ev (fun k => garmentref34_number.f k (m : Int)) (bs (Lib.decDigits m)) := by
 intro m
 induction m using Nat.strongRecOn with
 | _ m ih =>
  intro hm
  refine Ev.succ ?_
  simp only [garmentref34_number.f]
  refine Ev.neg (by omega) ?_
  by_cases h10 : m < 10
  ·refine Ev.cast (Ev.pos (by omega) (Ev.pure _)) ?_
   rw [digit_bs m h10, Lib.decDigits_one h10]
  ·refine Ev.neg (by omega) ?_
   have e1 : wrap64 (Int.tdiv (m : Int) 10) = ((m / 10 : Nat) : Int) := by
    rw [Int.tdiv_eq_ediv_of_nonneg (by omega)]
    unfold wrap64; omega
   have e2 : Int.tmod (m : Int) 10 = ((m % 10 : Nat) : Int) := by
    rw [Int.tmod_eq_emod_of_nonneg (by omega)]; omega
   rw [e1, e2]
   have hd := ih (m / 10) (by omega) (by omega)
   have hr := ih (m % 10) (by omega) (by omega)
   refine Ev.bind hd (Ev.bind hr ?_)
   have l1 := itoa_len ((m / 10 : Nat) : Int)
   have l2 := itoa_len ((m % 10 : Nat) : Int)
   rw [itoaL_nat _ (by omega)] at l1 l2
   refine Ev.cast (Ev.pos (by omega) (Ev.pure _)) ?_
   rw [bs_append, Lib.decDigits_one (show m % 10 < 10 by omega)]
   conv => rhs; rw [Lib.decDigits, dif_neg h10]
theorem rnum_ev (n : Int) (h : inR (-cM) cM n = true) : Ev (fun k => garmentref34_number.f k n) (bs (itoaL n)) := by
 rw [inR_iff] at h
 unfold cM at h
 by_cases hn : n < 0
 ·obtain ⟨m, rfl, hm⟩ : ∃ m : Nat, n = -(m : Int) ∧ 0 < m := ⟨n.natAbs, by omega, by omega⟩
  refine Ev.succ ?_
  simp only [garmentref34_number.f]
  refine Ev.pos hn ?_
  have e : wrap64 (-(-(m : Int))) = (m : Int) := by unfold wrap64; omega
  rw [e]
  have l1 := itoa_len (m : Int)
  rw [itoaL_nat _ (by omega)] at l1
  refine Ev.bind (rnum_nat m (by omega)) (Ev.cast (Ev.pos (by omega) (Ev.pure _)) ?_)
  rw [itoaL_neg m (by omega) hm]
  exact bs_append [45] _
 ·obtain ⟨m, rfl⟩ : ∃ m : Nat, n = (m : Int) := ⟨n.toNat, by omega⟩
  rw [itoaL_nat m (by omega)]
  exact rnum_nat m (by omega)
theorem inR_wide {lo hi n : Int} (h : inR lo hi n = true) (hl : -1048576 ≤ lo) (hh : hi ≤ 1048576) : inR (-cM) cM n = true := by
 rw [inR_iff] at h ⊢; unfold cM; omega
theorem rwithin_f (n lo hi : Int) : garmentref34_within.f n lo hi = some (inR lo hi n) := by
 unfold garmentref34_within.f inR
 by_cases h : n ≥ lo
 ·rw [if_pos h, decide_eq_true (show lo ≤ n from h), Bool.true_and]
 ·rw [if_neg h, decide_eq_false (show ¬ lo ≤ n from h), Bool.false_and]
theorem range_ev (m : Mk) (hz : m.z.length ≤ 1000) (hp : m.p.length ≤ 1000) : Ev (fun k => garmentref34_inRange.f k m.a m.b m.c m.d m.z m.p) (inM m) := by
 unfold garmentref34_inRange.f
 have l1 : ∀ i, i ≤ m.p.length → Ev (fun k => garmentref34_inRange.l1 k (i : Int) m.a m.b m.c m.d m.z m.p) ((m.p.drop i).all okP) := by
  refine up m.p.length _ ?_ ?_
  ·refine Ev.succ ?_
   simp only [garmentref34_inRange.l1]
   rw [List.drop_length]
   exact Ev.neg (by omega) (Ev.pure _)
  ·intro i hi ih
   have hrd : rd_T46 m.p (i : Int) = m.p[i] := by unfold rd_T46; simp [List.getD_eq_getElem?_getD, List.getElem?_eq_getElem hi]
   refine Ev.succ ?_
   simp only [garmentref34_inRange.l1]
   rw [hrd, List.drop_eq_getElem_cons hi, List.all_cons]
   refine Ev.pos (by omega) (Ev.pos (by omega) ?_)
   have j3 : ∀ q : Bool, q = (!okP m.p[i]) → Ev (fun k => garmentref34_inRange.j3 k (i : Int) q m.a m.b m.c m.d m.z m.p) (okP m.p[i] && (m.p.drop (i + 1)).all okP) := by
    intro q hq
    refine Ev.succ ?_
    simp only [garmentref34_inRange.j3]
    cases ho : okP m.p[i] with
    | true =>
     rw [ho] at hq
     refine Ev.neg (by simp [hq]) ?_
     rw [wrap_succ (by omega), Bool.true_and]
     exact ih
    | false =>
     rw [ho] at hq
     rw [Bool.false_and]
     exact Ev.pos (by simp [hq]) (Ev.pure _)
   have e : okP m.p[i] = (inR 0 cM m.p[i].f0 && (inR 0 cM m.p[i].f1 && (inR 0 cM m.p[i].f2 && (inR 0 3 m.p[i].f3.f1 && (inR (-cM) cM m.p[i].f4.f0 && inR (-cM) cM m.p[i].f4.f1))))) := by
    unfold okP; simp [Bool.and_assoc]
   rw [e] at j3 ⊢
   refine Ev.val (rwithin_f _ _ _) ?_
   by_cases h0 : inR 0 cM m.p[i].f0 = true
   ·refine Ev.pos h0 (Ev.val (rwithin_f _ _ _) ?_)
    by_cases h1 : inR 0 cM m.p[i].f1 = true
    ·refine Ev.pos h1 (Ev.val (rwithin_f _ _ _) ?_)
     by_cases h2 : inR 0 cM m.p[i].f2 = true
     ·refine Ev.pos h2 (Ev.val (rwithin_f _ _ _) ?_)
      by_cases h3 : inR 0 3 m.p[i].f3.f1 = true
      ·refine Ev.pos h3 (Ev.val (rwithin_f _ _ _) ?_)
       by_cases h4 : inR (-cM) cM m.p[i].f4.f0 = true
       ·refine Ev.pos h4 (Ev.val (rwithin_f _ _ _) (j3 _ ?_))
        rw [h0, h1, h2, h3, h4]; rfl
       ·exact Ev.neg h4 (j3 _ (by rw [Bool.eq_false_iff.2 h4]; simp))
      ·exact Ev.neg h3 (j3 _ (by rw [Bool.eq_false_iff.2 h3]; simp))
     ·exact Ev.neg h2 (j3 _ (by rw [Bool.eq_false_iff.2 h2]; simp))
    ·exact Ev.neg h1 (j3 _ (by rw [Bool.eq_false_iff.2 h1]; simp))
   ·exact Ev.neg h0 (j3 _ (by rw [Bool.eq_false_iff.2 h0]; simp))
 have l0 : ∀ i, i ≤ m.z.length → Ev (fun k => garmentref34_inRange.l0 k (i : Int) m.a m.b m.c m.d m.z m.p) ((m.z.drop i).all (inR 0 cM) && m.p.all okP) := by
  refine up m.z.length _ ?_ ?_
  ·refine Ev.succ ?_
   simp only [garmentref34_inRange.l0]
   rw [List.drop_length]
   have := l1 0 (Nat.zero_le _)
   rw [List.drop_zero] at this
   exact Ev.neg (by omega) this
  ·intro i hi ih
   refine Ev.succ ?_
   simp only [garmentref34_inRange.l0]
   rw [rd_at m.z i hi, List.drop_eq_getElem_cons hi, List.all_cons]
   refine Ev.pos (by omega) (Ev.pos (by omega) (Ev.val (rwithin_f _ _ _) ?_))
   by_cases h0 : inR 0 cM m.z[i] = true
   ·refine Ev.pos h0 ?_
    rw [h0, Bool.true_and, wrap_succ (by omega)]
    exact ih
   ·refine Ev.neg h0 ?_
    rw [Bool.eq_false_iff.2 h0, Bool.false_and, Bool.false_and]
    exact Ev.pure _
 have j0 : ∀ q : Bool, q = (!okH m.a m.b m.c m.d) → Ev (fun k => garmentref34_inRange.j0 k q m.a m.b m.c m.d m.z m.p) (inM m) := by
  intro q hq
  refine Ev.succ ?_
  simp only [garmentref34_inRange.j0]
  unfold inM
  cases ho : okH m.a m.b m.c m.d with
  | true =>
   rw [ho] at hq
   rw [Bool.true_and]
   have := l0 0 (Nat.zero_le _)
   rw [List.drop_zero] at this
   exact Ev.neg (by simp [hq]) this
  | false =>
   rw [ho] at hq
   rw [Bool.false_and, Bool.false_and]
   exact Ev.pos (by simp [hq]) (Ev.pure _)
 have e : okH m.a m.b m.c m.d = (inR 0 cM m.a && (inR 0 cM m.b && (inR 0 cM m.c && inR 0 cM m.d))) := by
  unfold okH; simp
 rw [e] at j0
 refine Ev.val (rwithin_f _ _ _) ?_
 by_cases h0 : inR 0 cM m.a = true
 ·refine Ev.pos h0 (Ev.val (rwithin_f _ _ _) ?_)
  by_cases h1 : inR 0 cM m.b = true
  ·refine Ev.pos h1 (Ev.val (rwithin_f _ _ _) ?_)
   by_cases h2 : inR 0 cM m.c = true
   ·refine Ev.pos h2 (Ev.val (rwithin_f _ _ _) (j0 _ ?_))
    rw [h0, h1, h2]; rfl
   ·exact Ev.neg h2 (j0 _ (by rw [Bool.eq_false_iff.2 h2]; simp))
  ·exact Ev.neg h1 (j0 _ (by rw [Bool.eq_false_iff.2 h1]; simp))
 ·exact Ev.neg h0 (j0 _ (by rw [Bool.eq_false_iff.2 h0]; simp))

def accM (m : Mk) (i : Nat) : List UInt8 := headLine m.a m.b m.c m.d ++ 10 :: (sizesLine m.z ++ 10 :: unl ((m.p.take i).map placeLine) [])
theorem acc_len (m : Mk) (i : Nat) (hz : m.z.length ≤ 1000) (hp : m.p.length ≤ 1000) : (accM m i).length ≤ 1000000 := by
 have hp' : ∀ ps : List Pl, (unl (ps.map placeLine) []).length ≤ 160 * ps.length := by
  intro ps
  induction ps with
  | nil => simp [unl_nil]
  | cons p ps ih =>
   have e1 := textL_length [p.f0, p.f1, p.f2]
   have e2 := textL_length [p.f3.f1, p.f4.f0, p.f4.f1]
   have e3 : (flipT p.f3.f0).length ≤ 5 := by unfold flipT; split <;> decide
   have e4 : wPlace.length = 5 := rfl
   have e5 : (placeLine p).length ≤ 150 := by
    unfold placeLine
    simp only [List.length_append, List.length_cons, List.length_nil] at e1 e2 ⊢
    omega
   rw [List.map_cons, unl_cons]
   simp only [List.length_append, List.length_cons] at ih ⊢
   omega
 have e1 := textL_length [m.a, m.b, m.c, m.d]
 have e2 := textL_length m.z
 have e3 := hp' (m.p.take i)
 have e4 : wMarker.length = 6 := rfl
 have e5 : wSizes.length = 5 := rfl
 have e6 : (m.p.take i).length ≤ 1000 := by rw [List.length_take]; omega
 unfold accM headLine sizesLine
 simp only [List.length_append, List.length_cons, List.length_nil] at e1 ⊢
 omega
theorem acc_succ (m : Mk) (i : Nat) (hi : i < m.p.length) : accM m (i + 1) = accM m i ++ (placeLine m.p[i] ++ [10]) := by
 unfold accM
 rw [List.take_succ_eq_append_getElem hi, List.map_append, unl_append]
 have : unl ((m.p.take i).map placeLine) (unl ([m.p[i]].map placeLine) []) = unl ((m.p.take i).map placeLine) [] ++ (placeLine m.p[i] ++ [10]) := by
  unfold unl; simp
 rw [this]
 simp
theorem acc_all (m : Mk) : accM m m.p.length = textM m := by
 unfold accM textM linesM
 rw [List.take_length, unl_cons, unl_cons]
theorem b32 : (⟨#[32]⟩ : ByteArray) = bs [32] := rfl
theorem b10 : (⟨#[10]⟩ : ByteArray) = bs [10] := rfl
theorem rprint_ev (m : Mk) (hz : m.z.length ≤ 1000) (hp : m.p.length ≤ 1000) : Ev (fun k => garmentref34_Print.f k m.a m.b m.c m.d m.z m.p) (bs (printM m).1, (printM m).2) := by
 unfold garmentref34_Print.f
 have long : 6 < m.z.length ∨ 60 < m.p.length → ∀ q : Bool, q = true → Ev (fun k => garmentref34_Print.j0 k q m.a m.b m.c m.d m.z m.p) (bs (printM m).1, (printM m).2) := by
  rintro h q rfl
  refine Ev.succ ?_
  simp only [garmentref34_Print.j0]
  unfold printM
  rw [if_pos h]
  exact Ev.pos trivial (Ev.pure _)
 by_cases h6 : (m.z.length : Int) > 6
 ·exact Ev.pos h6 (long (.inl (by omega)) _ rfl)
 ·refine Ev.neg h6 ?_
  by_cases h60 : (m.p.length : Int) > 60
  ·exact long (.inr (by omega)) _ (by simpa using h60)
  ·have hsh : ¬ (6 < m.z.length ∨ 60 < m.p.length) := by omega
   refine Ev.succ ?_
   simp only [garmentref34_Print.j0]
   refine Ev.neg (by simpa using h60) (Ev.bind (range_ev m hz hp) ?_)
   by_cases hin : inM m = true
   ·refine Ev.pos hin ?_
    have hok := Pure.okM_of hin (by omega) (by omega)
    have hpr : printM m = (textM m, 0) := Pure.inM_of hok
    rw [hpr]
    obtain ⟨o1, o2, o3, o4, o5⟩ := hok
    have num : ∀ {lo hi n : Int}, inR lo hi n = true → -1048576 ≤ lo → hi ≤ 1048576 → Ev (fun k => garmentref34_number.f k n) (bs (itoaL n)) := fun h a b => rnum_ev _ (inR_wide h a b)
    -- the places
    have l1 : ∀ i, i ≤ m.p.length → Ev (fun k => garmentref34_Print.l1 k (bs (accM m i)) (i : Int) m.a m.b m.c m.d m.z m.p) (bs (textM m), 0) := by
     refine up m.p.length _ ?_ ?_
     ·refine Ev.succ ?_
      simp only [garmentref34_Print.l1]
      rw [acc_all]
      exact Ev.neg (by omega) (Ev.pure _)
     ·intro i hi ih
      have hrd : rd_T46 m.p (i : Int) = m.p[i] := by unfold rd_T46; simp [List.getD_eq_getElem?_getD, List.getElem?_eq_getElem hi]
      have hx := o4 m.p[i] (List.getElem_mem hi)
      rw [acc_succ m i hi] at ih
      have hb : (bs (accM m i)).size ≤ 1000000 := by rw [bs_size]; exact acc_len m i hz hp
      refine Ev.succ ?_
      simp only [garmentref34_Print.l1]
      rw [hrd]
      generalize m.p[i] = p at *
      obtain ⟨q0, q1, q2, ⟨qf, q3⟩, ⟨q4, q5⟩⟩ := p
      have hx' : (inR 0 cM q0 = true ∧ inR 0 cM q1 = true ∧ inR 0 cM q2 = true) ∧ inR 0 3 q3 = true ∧ inR (-cM) cM q4 = true ∧ inR (-cM) cM q5 = true := by
       unfold okP at hx
       simpa [Bool.and_eq_true, and_assoc] using hx
      obtain ⟨⟨x0, x1, x2⟩, x3, x4, x5⟩ := hx'
      dsimp only
      have s0 := itoa_len q0
      have s1 := itoa_len q1
      have s2 := itoa_len q2
      have s3 := itoa_len q3
      have s4 := itoa_len q4
      have s5 := itoa_len q5
      refine Ev.pos (by omega) (Ev.pos (by omega) (Ev.pos (by omega) (Ev.bind (num x0 (by omega) cM_le) (Ev.pos (by omega) (Ev.pos (by omega) (Ev.bind (num x1 (by omega) cM_le) (Ev.pos (by omega) (Ev.pos (by omega) (Ev.bind (num x2 (by omega) cM_le) (Ev.pos (by omega) ?_))))))))))
      have tail : ∀ f : Bool, f = qf → Ev (fun k => garmentref34_Print.j3 k (bs (accM m i ++ (wPlace ++ textL [q0, q1, q2] ++ flipT f))) (i : Int) m.a m.b m.c m.d m.z m.p q0 q1 q2 qf q3 q4 q5) (bs (textM m), 0) := by
       rintro f rfl
       have hsz : (bs (accM m i ++ (wPlace ++ textL [q0, q1, q2] ++ flipT f))).size ≤ 1000200 := by
        have e1 := textL_length [q0, q1, q2]
        have e3 : (flipT f).length ≤ 5 := by unfold flipT; split <;> decide
        have e4 : wPlace.length = 5 := rfl
        rw [bs_size] at hb ⊢
        simp only [List.length_append, List.length_cons, List.length_nil] at e1 ⊢
        omega
       refine Ev.succ ?_
       simp only [garmentref34_Print.j3]
       refine Ev.pos (by omega) (Ev.bind (num x3 (by omega) (by omega)) (Ev.pos (by omega) (Ev.pos (by omega) (Ev.bind (num x4 cM_ge cM_le) (Ev.pos (by omega) (Ev.pos (by omega) (Ev.bind (num x5 cM_ge cM_le) (Ev.pos (by omega) (Ev.pos (by omega) ?_)))))))))
       rw [wrap_succ (by omega), b32, b10]
       simp only [bs_append]
       have e : accM m i ++ (wPlace ++ textL [q0, q1, q2] ++ flipT f) ++ [32] ++ itoaL q3 ++ [32] ++ itoaL q4 ++ [32] ++ itoaL q5 ++ [10] = accM m i ++ (placeLine ⟨q0, q1, q2, ⟨f, q3⟩, ⟨q4, q5⟩⟩ ++ [10]) := by
        unfold placeLine textL; simp
       rw [e]
       exact ih
      have ew : (⟨#[112, 108, 97, 99, 101, 32]⟩ : ByteArray) = bs (wPlace ++ [32]) := rfl
      have ef : (⟨#[32, 102, 108, 105, 112]⟩ : ByteArray) = bs (flipT true) := rfl
      rw [ew, ef, b32]
      simp only [bs_append]
      cases hqf : qf with
      | true =>
       refine Ev.pos rfl (Ev.pos (by omega) ?_)
       have e : accM m i ++ (wPlace ++ [32]) ++ itoaL q0 ++ [32] ++ itoaL q1 ++ [32] ++ itoaL q2 ++ flipT true = accM m i ++ (wPlace ++ textL [q0, q1, q2] ++ flipT true) := by
        unfold textL; simp
       rw [e]
       have := tail true hqf.symm
       rw [hqf] at this
       exact this
      | false =>
       refine Ev.neg (by simp) ?_
       have e : accM m i ++ (wPlace ++ [32]) ++ itoaL q0 ++ [32] ++ itoaL q1 ++ [32] ++ itoaL q2 = accM m i ++ (wPlace ++ textL [q0, q1, q2] ++ flipT false) := by
        unfold textL flipT; simp
       rw [e]
       have := tail false hqf.symm
       rw [hqf] at this
       exact this
    -- the sizes
    have l0 : ∀ i, i ≤ m.z.length → Ev (fun k => garmentref34_Print.l0 k (bs (headLine m.a m.b m.c m.d ++ 10 :: (wSizes ++ textL (m.z.take i)))) (i : Int) m.a m.b m.c m.d m.z m.p) (bs (textM m), 0) := by
     have hb : ∀ i, (bs (headLine m.a m.b m.c m.d ++ 10 :: (wSizes ++ textL (m.z.take i)))).size ≤ 1000000 := by
      intro i
      have e1 := textL_length [m.a, m.b, m.c, m.d]
      have e2 := textL_length (m.z.take i)
      have e3 : (m.z.take i).length ≤ 1000 := by rw [List.length_take]; omega
      have e4 : wMarker.length = 6 := rfl
      have e5 : wSizes.length = 5 := rfl
      rw [bs_size]
      unfold headLine
      simp only [List.length_append, List.length_cons, List.length_nil] at e1 ⊢
      omega
     refine up m.z.length _ ?_ ?_
     ·have hb' := hb m.z.length
      refine Ev.succ ?_
      simp only [garmentref34_Print.l0]
      refine Ev.neg (by omega) (Ev.pos (by omega) ?_)
      rw [b10, bs_append, List.take_length]
      have := l1 0 (Nat.zero_le _)
      have e : headLine m.a m.b m.c m.d ++ 10 :: (wSizes ++ textL m.z) ++ [10] = accM m 0 := by
       unfold accM sizesLine; simp [unl_nil]
      rw [e]
      exact this
     ·intro i hi ih
      have hb' := hb i
      have s0 := itoa_len m.z[i]
      have x0 := List.all_eq_true.1 o2 m.z[i] (List.getElem_mem hi)
      refine Ev.succ ?_
      simp only [garmentref34_Print.l0]
      rw [rd_at m.z i hi]
      refine Ev.pos (by omega) (Ev.pos (by omega) (Ev.pos (by omega) (Ev.bind (num x0 (by omega) cM_le) (Ev.pos (by omega) ?_))))
      rw [wrap_succ (by omega), b32, bs_append, bs_append]
      rw [List.take_succ_eq_append_getElem hi, textL_snoc] at ih
      have e : headLine m.a m.b m.c m.d ++ 10 :: (wSizes ++ textL (m.z.take i)) ++ [32] ++ itoaL m.z[i] = headLine m.a m.b m.c m.d ++ 10 :: (wSizes ++ (textL (m.z.take i) ++ 32 :: itoaL m.z[i])) := by simp
      rw [e]
      exact ih
    have o1' : inR 0 cM m.a = true ∧ inR 0 cM m.b = true ∧ inR 0 cM m.c = true ∧ inR 0 cM m.d = true := by
     unfold okH at o1
     simpa [Bool.and_eq_true] using o1
    obtain ⟨x0, x1, x2, x3⟩ := o1'
    have s0 := itoa_len m.a
    have s1 := itoa_len m.b
    have s2 := itoa_len m.c
    have s3 := itoa_len m.d
    refine Ev.bind (num x0 (by omega) cM_le) (Ev.pos (by omega) (Ev.pos (by omega) (Ev.bind (num x1 (by omega) cM_le) (Ev.pos (by omega) (Ev.pos (by omega) (Ev.bind (num x2 (by omega) cM_le) (Ev.pos (by omega) (Ev.pos (by omega) (Ev.bind (num x3 (by omega) cM_le) (Ev.pos (by omega) (Ev.pos (by omega) ?_)))))))))))
    have eM : (⟨#[109, 97, 114, 107, 101, 114, 32]⟩ : ByteArray) = bs (wMarker ++ [32]) := rfl
    have eS : (⟨#[10, 115, 105, 122, 101, 115]⟩ : ByteArray) = bs (10 :: wSizes) := rfl
    rw [eM, eS, b32]
    simp only [bs_append]
    have := l0 0 (Nat.zero_le _)
    have e : wMarker ++ [32] ++ itoaL m.a ++ [32] ++ itoaL m.b ++ [32] ++ itoaL m.c ++ [32] ++ itoaL m.d ++ 10 :: wSizes = headLine m.a m.b m.c m.d ++ 10 :: (wSizes ++ textL (m.z.take 0)) := by
     unfold headLine textL; simp
    rw [e]
    exact this
   ·refine Ev.cast (Ev.neg hin (Ev.pure _)) ?_
    unfold printM
    rw [if_neg hsh, if_neg hin]; rfl
end Go.Proofs.YtghnjnegcdbgnaaDoor
