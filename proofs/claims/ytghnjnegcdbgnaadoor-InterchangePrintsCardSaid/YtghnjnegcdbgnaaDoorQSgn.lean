/- Decimal numerals with a sign, as bytes: what a word says, and what a number prints as. Plain laws. -/
import Derived.Test.YtghnjnegcdbgnaaDoorQDec
import Derived.Lib.SlTrimSet
namespace Go.Proofs.YtghnjnegcdbgnaaDoor
open Go

theorem valF_le : ∀ (l : List UInt8) (a : Nat), a ≤ valF a l
 | [], a => Nat.le_refl _
 | c :: r, a => by
  rw [valF_cons]
  have := valF_le r (a * 10 + (c.toNat - 48))
  omega
theorem parse_all : ∀ (l : List UInt8) (a : Nat), l.all isDig = true → a < 18446744073709551616 →
  Lib.parseUint10 a l = if valF a l < 18446744073709551616 then .ok (valF a l) else .range
 | [], a, _, ha => by
  have e : valF a [] = a := rfl
  rw [e, if_pos ha]; rfl
 | c :: r, a, h, ha => by
  simp only [List.all_cons, Bool.and_eq_true] at h
  have h1 := isDig_iff.1 h.1
  have hm := valF_le r (a * 10 + (c.toNat - 48))
  unfold Lib.parseUint10
  rw [if_pos h1, valF_cons]
  by_cases h2 : 1844674407370955162 ≤ a
  ·rw [if_pos h2, if_neg (by omega)]
  ·rw [if_neg h2]
   by_cases h3 : 18446744073709551616 ≤ a * 10 + (c.toNat - 48)
   ·rw [if_pos h3, if_neg (by omega)]
   ·rw [if_neg h3, parse_all r _ h.2 (by omega)]
theorem mag_all {l : List UInt8} (h0 : l ≠ []) (h : l.all isDig = true) : Lib.parseMag l = if val l < 18446744073709551616 then .ok (val l) else .range := by
 unfold Lib.parseMag
 rw [if_neg h0, parse_all l 0 h (by omega)]; rfl

def digS (s : List UInt8) : List UInt8 := if s.head? = some 45 then s.tail else s
def formN (s : List UInt8) : Bool := decide (digS s ≠ []) && (digS s).all isDig && decide ((digS s).head? = some 48 → s = [48])
def valS (s : List UInt8) : Int := if s.head? = some 45 then -(val s.tail : Int) else (val s : Int)
theorem formN_iff {s : List UInt8} : formN s = true ↔ digS s ≠ [] ∧ (digS s).all isDig = true ∧ ((digS s).head? = some 48 → s = [48]) := by
 unfold formN
 simp only [Bool.and_eq_true, decide_eq_true_eq, and_assoc]
theorem dig_not45 {c : UInt8} (h : isDig c = true) : c ≠ 45 := by
 rintro rfl
 exact absurd h (by decide)
theorem atoi_form {s : List UInt8} (h0 : digS s ≠ []) (h1 : (digS s).all isDig = true) : Lib.atoiAll s = if -9223372036854775808 ≤ valS s ∧ valS s ≤ 9223372036854775807 then .ok (valS s) else .range := by
 cases s with
 | nil => exact absurd rfl h0
 | cons c r =>
  by_cases hc : c = 45
  ·subst hc
   have e1 : digS (45 :: r) = r := rfl
   have e2 : valS (45 :: r) = -(val r : Int) := rfl
   rw [e1] at h0 h1
   rw [Lib.atoiAll_minus, mag_all h0 h1, e2]
   by_cases hv : val r < 18446744073709551616
   ·rw [if_pos hv]
    unfold Lib.signed
    simp only
    by_cases hw : 9223372036854775808 < val r
    ·rw [if_pos hw, if_neg (by omega)]
    ·rw [if_neg hw, if_pos (by omega)]
   ·rw [if_neg hv, if_neg (by omega)]; rfl
  ·have hh : (c :: r).head? ≠ some 45 := by simpa using hc
   have e1 : digS (c :: r) = c :: r := if_neg hh
   have e2 : valS (c :: r) = (val (c :: r) : Int) := if_neg hh
   rw [e1] at h0 h1
   have hd : isDig c = true := by simp only [List.all_cons, Bool.and_eq_true] at h1; exact h1.1
   rw [isDig_iff] at hd
   rw [Lib.atoiAll_plain c r (by omega) (by omega), mag_all h0 h1, e2]
   by_cases hv : val (c :: r) < 18446744073709551616
   ·rw [if_pos hv]
    unfold Lib.signless
    simp only
    by_cases hw : 9223372036854775808 ≤ val (c :: r)
    ·rw [if_pos hw, if_neg (by omega)]
    ·rw [if_neg hw, if_pos (by omega)]
   ·rw [if_neg hv, if_neg (by omega)]; rfl
theorem itoaL_neg (n : Nat) (h : n ≤ 9223372036854775808) (h0 : 0 < n) : itoaL (-(n : Int)) = 45 :: Lib.decDigits n := by
 rw [itoaL_eq _ (by omega) (by omega)]
 unfold Lib.itoa
 rw [if_pos (by omega)]
 congr 2
 omega
theorem form_itoa (n : Int) (h0 : -9223372036854775808 ≤ n) (h1 : n ≤ 9223372036854775807) : formN (itoaL n) = true ∧ valS (itoaL n) = n := by
 by_cases hn : n < 0
 ·obtain ⟨m, rfl, hm⟩ : ∃ m : Nat, n = -(m : Int) ∧ 0 < m := ⟨n.natAbs, by omega, by omega⟩
  rw [itoaL_neg m (by omega) hm]
  obtain ⟨d1, d2, d3, d4⟩ := dec_dig m
  have e1 : digS (45 :: Lib.decDigits m) = Lib.decDigits m := rfl
  have e2 : valS (45 :: Lib.decDigits m) = -(val (Lib.decDigits m) : Int) := rfl
  refine ⟨formN_iff.2 ⟨by rw [e1]; exact d3, by rw [e1]; exact d1, fun hh => ?_⟩, by rw [e2, d2]⟩
  rw [e1] at hh
  have := d4 hh
  omega
 ·obtain ⟨m, rfl⟩ : ∃ m : Nat, n = (m : Int) := ⟨n.toNat, by omega⟩
  rw [itoaL_nat m (by omega)]
  obtain ⟨d1, d2, d3, d4⟩ := dec_dig m
  have hh : (Lib.decDigits m).head? ≠ some 45 := by
   intro hx
   cases hc : Lib.decDigits m with
   | nil => exact d3 hc
   | cons c r =>
    rw [hc] at d1 hx
    simp only [List.all_cons, Bool.and_eq_true] at d1
    exact dig_not45 d1.1 (by simpa using hx)
  have e1 : digS (Lib.decDigits m) = Lib.decDigits m := if_neg hh
  have e2 : valS (Lib.decDigits m) = (val (Lib.decDigits m) : Int) := if_neg hh
  refine ⟨formN_iff.2 ⟨by rw [e1]; exact d3, by rw [e1]; exact d1, fun hx => ?_⟩, by rw [e2, d2]⟩
  rw [e1] at hx
  rw [d4 hx, Lib.decDigits_one (by omega)]; rfl
theorem itoa_dig (n : Int) (h0 : -9223372036854775808 ≤ n) (h1 : n ≤ 9223372036854775807) : ∀ c ∈ itoaL n, isDig c = true ∨ c = 45 := by
 intro c hc
 obtain ⟨h, _⟩ := form_itoa n h0 h1
 obtain ⟨_, h, _⟩ := formN_iff.1 h
 unfold digS at h
 split at h
 ·rename_i hh
  cases hx : itoaL n with
  | nil => rw [hx] at hc; cases hc
  | cons a r =>
   rw [hx] at hc h hh
   rcases List.mem_cons.1 hc with rfl | hc
   ·exact .inr (by simpa using hh)
   ·exact .inl (List.all_eq_true.1 h _ hc)
 ·exact .inl (List.all_eq_true.1 h _ hc)
theorem trimPrefix_45 (s : List UInt8) : Lib.trimPrefix s [45] = digS s := by
 unfold Lib.trimPrefix Lib.hasPrefix digS
 cases s with
 | nil => rfl
 | cons c r =>
  by_cases hc : c = 45
  ·subst hc; simp [List.isPrefixOf]
  ·have : (45 == c) = false := by simpa using fun h : (45 : UInt8) = c => hc h.symm
   simp [List.isPrefixOf, hc, this]
theorem digits_has (c : UInt8) : ([48, 49, 50, 51, 52, 53, 54, 55, 56, 57] : List UInt8).contains c = isDig c := by
 rw [Bool.eq_iff_iff, isDig_iff]
 constructor
 ·intro h
  have h2 := List.contains_iff_mem.1 h
  simp only [List.mem_cons, List.not_mem_nil, or_false] at h2
  rcases h2 with rfl | rfl | rfl | rfl | rfl | rfl | rfl | rfl | rfl | rfl <;> decide
 ·rintro ⟨h1, h2⟩
  have e : c = UInt8.ofNat c.toNat := by simp
  generalize c.toNat = n at *
  subst e
  have : n = 48 ∨ n = 49 ∨ n = 50 ∨ n = 51 ∨ n = 52 ∨ n = 53 ∨ n = 54 ∨ n = 55 ∨ n = 56 ∨ n = 57 := by omega
  rcases this with rfl | rfl | rfl | rfl | rfl | rfl | rfl | rfl | rfl | rfl <;> decide
theorem dropWhile_nil_iff {α : Type} (p : α → Bool) : ∀ l : List α, l.dropWhile p = [] ↔ l.all p = true
 | [] => by simp
 | a :: l => by
  rw [List.dropWhile_cons, List.all_cons]
  cases hp : p a with
  | true => simpa using dropWhile_nil_iff p l
  | false => simp
theorem dropWhile_notall {α : Type} (p : α → Bool) : ∀ l : List α, l.all p = false → (l.dropWhile p).all p = false
 | [], h => by simp at h
 | a :: l, h => by
  rw [List.dropWhile_cons]
  cases hp : p a with
  | true => rw [List.all_cons, hp, Bool.true_and] at h; simpa using dropWhile_notall p l h
  | false => simp [hp]
theorem trimS_digits (d : List UInt8) : Lib.trimS d [48, 49, 50, 51, 52, 53, 54, 55, 56, 57] = [] ↔ d.all isDig = true := by
 have e : (fun x => ([48, 49, 50, 51, 52, 53, 54, 55, 56, 57] : List UInt8).contains x) = isDig := funext digits_has
 unfold Lib.trimS Lib.trimLeftS Lib.trimRightS
 rw [e, dropWhile_nil_iff, List.all_reverse]
 constructor
 ·intro h
  cases ha : d.all isDig with
  | true => rfl
  | false =>
   have h2 : d.reverse.all isDig = false := by rw [List.all_reverse]; exact ha
   rw [dropWhile_notall isDig _ h2] at h
   cases h
 ·intro h
  have h2 : d.reverse.all isDig = true := by rw [List.all_reverse]; exact h
  have h3 := (dropWhile_nil_iff isDig d.reverse).2 h2
  rw [h3]; rfl
end Go.Proofs.YtghnjnegcdbgnaaDoor
