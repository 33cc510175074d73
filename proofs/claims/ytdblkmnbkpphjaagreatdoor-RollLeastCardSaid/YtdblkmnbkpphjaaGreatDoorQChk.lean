/- Check of a roll, in the program and in the reference: one plain function. -/
import Derived.Test.YtdblkmnbkpphjaaGreatDoorJ3
import Derived.Test.YtdblkmnbkpphjaaGreatDoorQEv
namespace Go.Proofs.YtdblkmnbkpphjaaGreatDoor.P
set_option linter.unusedVariables false
open Go Go.RowKit Go.Proofs.YtdblkmnbkpphjaaGreatDoor Go.Proofs.YtdblkmnbkpphjaaGreatDoorW.PrintWords Go.Proofs.YtdblkmnbkpphjaaGreatDoorW.PrintLast Go.Proofs.YtdblkmnbkpphjaaGreatDoorW.PrintMore
def capB (c : Int) : Bool := decide (65 ≤ c ∧ c ≤ 90)
def lowB (c : Int) : Bool := decide (97 ≤ c ∧ c ≤ 122)
def digB (c : Int) : Bool := decide (48 ≤ c ∧ c ≤ 57)
def okB (c : Int) : Bool := capB c || lowB c || digB c
theorem letter_f (c : Int) : roll_letter.f c = some (capB c || lowB c) := by
 unfold roll_letter.f capB lowB
 by_cases h1 : 65 ≤ c <;> by_cases h2 : c ≤ 90 <;> by_cases h3 : 97 ≤ c <;> by_cases h4 : c ≤ 122 <;> simp [h1, h2, h3, h4]
theorem rdigit_f (c : Int) : roll_digit.f c = some (digB c) := by
 unfold roll_digit.f digB
 by_cases h1 : 48 ≤ c <;> by_cases h2 : c ≤ 57 <;> simp [h1, h2]
def allFrom (s : ByteArray) : Nat → Nat → Bool
 | _, 0 => true
 | i, d + 1 => okB (bt s (i : Int)) && allFrom s (i + 1) d
theorem named_loop (s : ByteArray) (hs : s.size ≤ 8) : ∀ d i, i + d = s.size → Ev (fun k => roll_named.l0 k s (s.size : Int) (i : Int)) (allFrom s i d)
 | 0, i, h => by
  refine Ev.step (h := fun _ => some true) (Ev.pure _) fun k => ?_
  simp only [roll_named.l0]
  rw [if_neg (by omega)]
 | d + 1, i, h => by
  have ih := named_loop s hs d (i + 1) (by omega)
  have hw : wrap64 ((i : Int) + 1) = ((i + 1 : Nat) : Int) := wrap_succ (by omega)
  have hj : Ev (fun k => roll_named.j2 k s (s.size : Int) (i : Int) (!okB (bt s (i : Int)))) (allFrom s i (d + 1)) := by
   unfold allFrom
   cases hb : okB (bt s (i : Int)) with
   | false => exact Ev.step (h := fun _ => some false) (Ev.pure _) fun k => by simp only [roll_named.j2]; rfl
   | true => exact Ev.step (h := fun k => roll_named.l0 k s (s.size : Int) (((i + 1 : Nat) : Int))) (by simpa using ih) fun k => by simp only [roll_named.j2, hw]; rfl
  refine Ev.step hj fun k => ?_
  simp only [roll_named.l0]
  rw [if_pos (by omega), if_pos (by omega), if_pos (by omega), letter_f, rdigit_f]
  unfold okB
  cases (capB (bt s (i : Int)) || lowB (bt s (i : Int))) <;> simp
def idB (s : ByteArray) : Bool := decide (1 ≤ s.size ∧ s.size ≤ 8) && capB (bt s 0) && allFrom s 0 s.size
theorem size_nil (s : ByteArray) : s.toList = [] ↔ s.size = 0 := by
 rw [ba_toList, ← List.length_eq_zero_iff]; rfl
theorem named_ev (s : ByteArray) : Ev (fun k => roll_named.f k s) (idB s) := by
 have h0 : Ev (fun k => roll_named.j0 k s true) false := Ev.step (h := fun _ => some false) (Ev.pure _) fun k => by simp only [roll_named.j0]; rfl
 unfold roll_named.f idB
 by_cases hn : s.toList = []
 ·have := (size_nil s).1 hn
  simp only [if_pos hn]
  rw [show decide (1 ≤ s.size ∧ s.size ≤ 8) = false from decide_eq_false (by omega)]
  exact h0
 ·have hz : s.size ≠ 0 := fun h => hn ((size_nil s).2 h)
  simp only [if_neg hn]
  by_cases h8 : (s.size : Int) > 8
  ·simp only [if_pos h8]
   rw [show decide (1 ≤ s.size ∧ s.size ≤ 8) = false from decide_eq_false (by omega)]
   exact h0
  ·simp only [if_neg h8]
   rw [show decide (1 ≤ s.size ∧ s.size ≤ 8) = true from decide_eq_true (by omega)]
   simp only [if_pos (show 0 < (s.size : Int) by omega), Bool.true_and]
   unfold capB
   by_cases h1 : bt s 0 < 65
   ·simp only [if_pos h1]
    rw [show decide (65 ≤ bt s 0 ∧ bt s 0 ≤ 90) = false from decide_eq_false (by omega)]
    exact h0
   ·simp only [if_neg h1]
    by_cases h2 : bt s 0 > 90
    ·rw [show decide (65 ≤ bt s 0 ∧ bt s 0 ≤ 90) = false from decide_eq_false (by omega), show decide (bt s 0 > 90) = true from decide_eq_true h2]
     exact h0
    ·rw [show decide (65 ≤ bt s 0 ∧ bt s 0 ≤ 90) = true from decide_eq_true (by omega), show decide (bt s 0 > 90) = false from decide_eq_false h2, Bool.true_and]
     exact Ev.step (h := fun k => roll_named.l0 k s (s.size : Int) ((0 : Nat) : Int)) (named_loop s (by omega) s.size 0 (by omega)) fun k => by simp only [roll_named.j0]; rfl
def fitB (wd ln : Int) (f : S46) : Bool := decide (0 ≤ f.f0 ∧ 1 ≤ f.f2 ∧ f.f0 + f.f2 ≤ ln) && decide (0 ≤ f.f1 ∧ 1 ≤ f.f3 ∧ f.f1 + f.f3 ≤ wd)
def measB (wd ln a b c : Int) : Bool := decide (1 ≤ ln ∧ ln ≤ 1048576) && (decide (1 ≤ wd ∧ wd ≤ 1048576) && (decide (-1000 ≤ a ∧ a ≤ 1000) && (decide (-1000 ≤ b ∧ b ≤ 1000) && decide (-1000 ≤ c ∧ c ≤ 1000))))
def chkE (id : ByteArray) (wd ln a b c : Int) (fl : List S46) : Int := if idB id = true then if measB wd ln a b c = true then if 20 < fl.length then 5 else if fl.all (fitB wd ln) = true then 0 else 3 else 3 else 1
theorem rd46 (l : List S46) (i : Nat) (h : i < l.length) : rd_T46 l (i : Int) = l[i] := by
 show l.getD (Int.toNat (i : Int)) _ = _
 rw [Int.toNat_natCast, List.getD_eq_getElem?_getD, List.getElem?_eq_getElem h]; rfl
theorem within_f (a n len : Int) (h0 : 1 ≤ len) (h1 : len ≤ 1048576) : roll_within.f a n len = some (decide (0 ≤ a ∧ 1 ≤ n ∧ a + n ≤ len)) := by
 unfold roll_within.f
 by_cases h2 : n ≥ 1
 ·rw [if_pos h2]
  by_cases h3 : n ≤ len
  ·rw [if_pos h3]
   have hw : wrap64 (len - n) = len - n := by unfold wrap64; omega
   by_cases h4 : a ≥ 0
   ·rw [if_pos h4, hw]
    congr 1
    exact decide_eq_decide.2 (by omega)
   ·rw [if_neg h4, decide_eq_false (by omega)]
  ·rw [if_neg h3, decide_eq_false (by omega)]
 ·rw [if_neg h2, decide_eq_false (by omega)]
theorem chk_loop (id : ByteArray) (wd ln a b c : Int) (fl : List S46) (h0 : 1 ≤ ln) (h1 : ln ≤ 1048576) (h2 : 1 ≤ wd) (h3 : wd ≤ 1048576) (hl : fl.length ≤ 20) :
  ∀ d i, i + d = fl.length → Ev (fun k => roll_Check.l0 k fl (fl.length : Int) (i : Int) id wd ln a b c fl) (if (fl.drop i).all (fitB wd ln) = true then 0 else 3)
 | 0, i, h => by
  refine Ev.step (h := fun _ => some 0) ?_ fun k => by simp only [roll_Check.l0]; rw [if_neg (by omega)]
  rw [List.drop_eq_nil_of_le (by omega)]
  exact Ev.pure _
 | d + 1, i, h => by
  have hi : i < fl.length := by omega
  have ih := chk_loop id wd ln a b c fl h0 h1 h2 h3 hl d (i + 1) (by omega)
  have hw : wrap64 ((i : Int) + 1) = ((i + 1 : Nat) : Int) := wrap_succ (by omega)
  rw [List.drop_eq_getElem_cons hi, List.all_cons]
  have hj : Ev (fun k => roll_Check.j2 k fl (fl.length : Int) (i : Int) (!(fitB wd ln fl[i])) id wd ln a b c fl) (if (fitB wd ln fl[i] && (fl.drop (i + 1)).all (fitB wd ln)) = true then 0 else 3) := by
   cases hb : fitB wd ln fl[i] with
   | false => exact Ev.step (h := fun _ => some 3) (Ev.pure _) fun k => by simp only [roll_Check.j2]; rfl
   | true => exact Ev.step (h := fun k => roll_Check.l0 k fl (fl.length : Int) (((i + 1 : Nat) : Int)) id wd ln a b c fl) (by simpa using ih) fun k => by simp only [roll_Check.j2, hw]; rfl
  refine Ev.step hj fun k => ?_
  simp only [roll_Check.l0]
  rw [if_pos (by omega), if_pos (by omega), if_pos (by omega), rd46 fl i hi, within_f _ _ _ h0 h1, within_f _ _ _ h2 h3]
  unfold fitB
  cases decide (0 ≤ fl[i].f0 ∧ 1 ≤ fl[i].f2 ∧ fl[i].f0 + fl[i].f2 ≤ ln) <;> simp
theorem size_f (a : Int) : roll_size.f a = some (decide (1 ≤ a ∧ a ≤ 1048576)) := by
 unfold roll_size.f
 by_cases h1 : 1 ≤ a <;> by_cases h2 : a ≤ 1048576 <;> simp [h1, h2]
theorem tone_f (a : Int) : roll_tone.f a = some (decide (-1000 ≤ a ∧ a ≤ 1000)) := by
 unfold roll_tone.f
 by_cases h1 : -1000 ≤ a <;> by_cases h2 : a ≤ 1000 <;> simp [h1, h2]
theorem check_ev (id : ByteArray) (wd ln a b c : Int) (fl : List S46) : Ev (fun k => roll_Check.f k id wd ln a b c fl) (chkE id wd ln a b c fl) := by
 have h3 : Ev (fun k => roll_Check.j0 k true id wd ln a b c fl) 3 := Ev.step (h := fun _ => some 3) (Ev.pure _) fun k => by simp only [roll_Check.j0]; rfl
 unfold roll_Check.f chkE
 refine Ev.bind (named_ev id) ?_
 cases idB id with
 | false => exact Ev.pure _
 | true =>
  simp only [if_true, size_f, tone_f, Option.bind_some]
  unfold measB
  by_cases c1 : 1 ≤ ln ∧ ln ≤ 1048576
  ·by_cases c2 : 1 ≤ wd ∧ wd ≤ 1048576
   ·by_cases c3 : -1000 ≤ a ∧ a ≤ 1000
    ·by_cases c4 : -1000 ≤ b ∧ b ≤ 1000
     ·by_cases c5 : -1000 ≤ c ∧ c ≤ 1000
      ·simp only [decide_eq_true c1, decide_eq_true c2, decide_eq_true c3, decide_eq_true c4, decide_eq_true c5, if_true, Bool.and_self, Bool.not_true]
       by_cases hl : 20 < fl.length
       ·rw [if_pos hl]
        exact Ev.step (h := fun _ => some 5) (Ev.pure _) fun k => by simp only [roll_Check.j0]; rw [if_neg (by decide), if_pos (by omega)]
       ·rw [if_neg hl]
        exact Ev.step (h := fun k => roll_Check.l0 k fl (fl.length : Int) ((0 : Nat) : Int) id wd ln a b c fl) (chk_loop id wd ln a b c fl c1.1 c1.2 c2.1 c2.2 (by omega) fl.length 0 (by omega)) fun k => by simp only [roll_Check.j0]; rw [if_neg (by decide), if_neg (by omega)]; rfl
      ·simpa [c1, c2, c3, c4, decide_eq_false c5] using h3
     ·simpa [c1, c2, c3, decide_eq_false c4] using h3
    ·simpa [c1, c2, decide_eq_false c3] using h3
   ·simpa [c1, decide_eq_false c2] using h3
  ·simpa [decide_eq_false c1] using h3
end Go.Proofs.YtdblkmnbkpphjaaGreatDoor.P
