/- Decimals, splitting and joining, on lists of bytes: plain laws. -/
import Derived.Test.YtghnjnegcdbgnaaDoorBPlain
import Derived.Lib.AtoiAllCases
import Derived.Lib.Join
namespace Go.Proofs.YtghnjnegcdbgnaaDoor
open Go

def isDig (c : UInt8) : Bool := decide (48 ≤ c.toNat ∧ c.toNat ≤ 57)
def valF (a : Nat) (l : List UInt8) : Nat := l.foldl (fun a c => a * 10 + (c.toNat - 48)) a
def val (l : List UInt8) : Nat := valF 0 l
theorem valF_cons (a : Nat) (c : UInt8) (l : List UInt8) : valF a (c :: l) = valF (a * 10 + (c.toNat - 48)) l := by unfold valF; rw [List.foldl_cons]
theorem valF_append (a : Nat) (l m : List UInt8) : valF a (l ++ m) = valF (valF a l) m := List.foldl_append
theorem val_snoc (l : List UInt8) (c : UInt8) : val (l ++ [c]) = val l * 10 + (c.toNat - 48) := by unfold val; rw [valF_append]; unfold valF; rw [List.foldl_cons, List.foldl_nil]
theorem isDig_iff {c : UInt8} : isDig c = true ↔ 48 ≤ c.toNat ∧ c.toNat ≤ 57 := by unfold isDig; exact decide_eq_true_iff
theorem head_app {α : Type} {l m : List α} (h : l ≠ []) : (l ++ m).head? = l.head? := by
 cases l with
 | nil => exact absurd rfl h
 | cons a r => rfl
theorem u8_of {n : Nat} (h : n < 256) : (UInt8.ofNat n).toNat = n := by simp [UInt8.toNat_ofNat']; omega
theorem dec_dig : ∀ u : Nat, (Lib.decDigits u).all isDig = true ∧ val (Lib.decDigits u) = u ∧ Lib.decDigits u ≠ [] ∧ ((Lib.decDigits u).head? = some 48 → u = 0) := by
 intro u
 induction u using Nat.strongRecOn with
 | _ u ih =>
  by_cases h : u < 10
  ·rw [Lib.decDigits_one h]
   have e := u8_of (n := 48 + u) (by omega)
   refine ⟨?_, ?_, by simp, fun hh => ?_⟩
   ·simp only [List.all_cons, List.all_nil, Bool.and_true]
    exact isDig_iff.2 ⟨by rw [e]; omega, by rw [e]; omega⟩
   ·unfold val valF
    rw [List.foldl_cons, List.foldl_nil, e]; omega
   have h2 : UInt8.ofNat (48 + u) = 48 := by simpa using hh
   have h3 := congrArg UInt8.toNat h2
   rw [e] at h3
   have h4 : (48 : UInt8).toNat = 48 := rfl
   omega
  ·have e1 : Lib.decDigits u = Lib.decDigits (u / 10) ++ [UInt8.ofNat (48 + u % 10)] := by
    rw [Lib.decDigits, dif_neg h]
   have e := u8_of (n := 48 + u % 10) (by omega)
   obtain ⟨i1, i2, i3, i4⟩ := ih (u / 10) (by omega)
   rw [e1]
   refine ⟨?_, ?_, by simp, fun hh => ?_⟩
   ·rw [List.all_append, i1]
    simp only [List.all_cons, List.all_nil, Bool.and_true, Bool.true_and]
    exact isDig_iff.2 ⟨by rw [e]; omega, by rw [e]; omega⟩
   ·rw [val_snoc, i2, e]; omega
   ·rw [head_app i3] at hh
    have := i4 hh
    omega
theorem itoaL_nat (n : Nat) (h : n < 9223372036854775808) : itoaL (n : Int) = Lib.decDigits n := by
 rw [itoaL_eq _ (by omega) (by omega)]
 unfold Lib.itoa
 rw [if_neg (by omega)]; rfl

theorem split_fuel (sep : List UInt8) (hs : sep ≠ []) (k : Nat) (s : List UInt8) (h : s.length < k) : splitG sep k s = splitL sep s := by
 rw [splitG_eq sep hs k s h, splitL_eq sep s hs]
theorem splitL_nil (sep : List UInt8) (hs : sep ≠ []) : splitL sep [] = [[]] := by
 unfold splitL
 cases sep with
 | nil => exact absurd rfl hs
 | cons a b => rfl
theorem splitL_sep (sep s : List UInt8) (hs : sep ≠ []) : splitL sep (sep ++ s) = [] :: splitL sep s := by
 have hl : 0 < sep.length := List.length_pos_iff.2 hs
 conv => lhs; unfold splitL; unfold splitG
 rw [if_pos (by rw [List.isPrefixOf_iff_prefix]; exact List.prefix_append _ _), List.drop_left, split_fuel sep hs _ s (by simp; omega)]
theorem splitL_cons (sep : List UInt8) (hs : sep ≠ []) (x : UInt8) (s : List UInt8) (h : ¬ sep <+: x :: s) : splitL sep (x :: s) = consHead x (splitL sep s) := by
 conv => lhs; unfold splitL; unfold splitG
 rw [if_neg (by rw [List.isPrefixOf_iff_prefix]; exact h)]
 simp only
 rw [split_fuel sep hs _ s (by simp)]
theorem splitL_ne (sep s : List UInt8) : splitL sep s ≠ [] := splitG_ne _ _ _
theorem joinL_cons_head (sep : List UInt8) (x : UInt8) {l : List (List UInt8)} (h : l ≠ []) : Lib.join (consHead x l) sep = x :: Lib.join l sep := by
 cases l with
 | nil => exact absurd rfl h
 | cons a r => simp only [consHead, Lib.join_cons, List.cons_append]
theorem joinL_nil_cons (sep : List UInt8) {l : List (List UInt8)} (h : l ≠ []) : Lib.join ([] :: l) sep = sep ++ Lib.join l sep := by
 cases l with
 | nil => exact absurd rfl h
 | cons a r => simp [Lib.join_cons, Lib.joinTail]
theorem joinL_cons (sep x : List UInt8) {l : List (List UInt8)} (h : l ≠ []) : Lib.join (x :: l) sep = x ++ sep ++ Lib.join l sep := by
 cases l with
 | nil => exact absurd rfl h
 | cons a r => simp [Lib.join_cons, Lib.joinTail]
theorem join_split (sep : List UInt8) (hs : sep ≠ []) : ∀ (n : Nat) (s : List UInt8), s.length ≤ n → Lib.join (splitL sep s) sep = s := by
 intro n
 induction n with
 | zero =>
  intro s h
  have : s = [] := List.length_eq_zero_iff.1 (by omega)
  subst this
  rw [splitL_nil sep hs]; rfl
 | succ n ih =>
  intro s h
  cases s with
  | nil => rw [splitL_nil sep hs]; rfl
  | cons x s =>
   by_cases hp : sep <+: x :: s
   ·obtain ⟨t, ht⟩ := hp
    have hl : 0 < sep.length := List.length_pos_iff.2 hs
    have htl : t.length ≤ n := by
     have := congrArg List.length ht
     simp at this h; omega
    rw [← ht, splitL_sep sep t hs, joinL_nil_cons _ (splitL_ne _ _), ih t htl]
   ·rw [splitL_cons sep hs x s hp, joinL_cons_head _ _ (splitL_ne _ _), ih s (by simpa using h)]
theorem split_piece (a : UInt8) (b x s : List UInt8) (hx : a ∉ x) : splitL (a :: b) (x ++ (a :: b) ++ s) = x :: splitL (a :: b) s := by
 induction x with
 | nil => exact splitL_sep _ _ (by simp)
 | cons c x ih =>
  have hc : a ≠ c := fun h => hx (by simp [h])
  rw [List.cons_append, List.cons_append, splitL_cons _ (by simp) c _ (by rw [List.cons_prefix_cons]; exact fun h => hc h.1), ih (fun h => hx (by simp [h]))]
  rfl
theorem split_last (a : UInt8) (b x : List UInt8) (hx : a ∉ x) : splitL (a :: b) x = [x] := by
 induction x with
 | nil => exact splitL_nil _ (by simp)
 | cons c x ih =>
  have hc : a ≠ c := fun h => hx (by simp [h])
  rw [splitL_cons _ (by simp) c _ (by rw [List.cons_prefix_cons]; exact fun h => hc h.1), ih (fun h => hx (by simp [h]))]
  rfl
theorem split_join (a : UInt8) (b : List UInt8) : ∀ (l : List (List UInt8)), l ≠ [] → (∀ x ∈ l, a ∉ x) → splitL (a :: b) (Lib.join l (a :: b)) = l
 | [], h, _ => absurd rfl h
 | [x], _, h => by rw [Lib.join_one]; exact split_last a b x (h x (by simp))
 | x :: y :: r, _, h => by
  rw [joinL_cons _ _ (by simp), split_piece a b x _ (h x (by simp)), split_join a b (y :: r) (by simp) (fun z hz => h z (by simp [hz]))]
theorem cut_hit (a : UInt8) (x s : List UInt8) (hx : a ∉ x) : cutL (x ++ a :: s) [a] = (x, s, true) := by
 have : cutG [a] (x ++ a :: s) = some (x, s) := by
  induction x with
  | nil => simp [cutG, List.isPrefixOf]
  | cons c x ih =>
   have hc : ¬ a = c := fun h => hx (by simp [h])
   rw [List.cons_append, cutG, ih (fun h => hx (by simp [h]))]
   simp [List.isPrefixOf, hc]
 unfold cutL; rw [this]
theorem cut_miss (a : UInt8) (x : List UInt8) (hx : a ∉ x) : cutL x [a] = (x, [], false) := by
 have : cutG [a] x = none := by
  induction x with
  | nil => simp [cutG, List.isPrefixOf]
  | cons c x ih =>
   have hc : ¬ a = c := fun h => hx (by simp [h])
   rw [cutG, ih (fun h => hx (by simp [h]))]
   simp [List.isPrefixOf, hc]
 unfold cutL; rw [this]
end Go.Proofs.YtghnjnegcdbgnaaDoor
