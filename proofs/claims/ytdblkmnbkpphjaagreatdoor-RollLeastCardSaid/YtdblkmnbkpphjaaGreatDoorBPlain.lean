/- Plain functions on bytes that the library's contracts are told with: decimal numerals, cutting at a separator, the first place of a part; each is what the kit's own word says. No program here. -/
import Derived.Lib.ItoaNum
import Derived.Lib.Split
import Derived.Lib.IndexMore
import Derived.Lib.CountLaws
import Derived.Lib.CutLaws
import Derived.Lib.SlTrimSet
import Derived.Lib.AtoiAll
namespace Go.Proofs.YtdblkmnbkpphjaaGreatDoor
open Go

theorem ba_eta (s : ByteArray) : (⟨s.data.toList.toArray⟩ : ByteArray) = s := by cases s; simp

theorem ba_beq (a b : ByteArray) : (a == b) = decide (a = b) := by
 cases a; cases b; rename_i x y
 show (x == y) = _
 rw [Bool.eq_iff_iff]; simp
instance : LawfulBEq ByteArray := { eq_of_beq := fun h => by rw [ba_beq] at h; exact of_decide_eq_true h, rfl := fun {a} => by rw [ba_beq]; exact decide_eq_true rfl }
theorem ba_toList (s : ByteArray) : s.toList = s.data.toList := Lib.toList_data s

def digF : Nat → Nat → List UInt8
 | 0, _ => []
 | k + 1, u => if u < 10 then [UInt8.ofNat (48 + u)] else digF k (u / 10) ++ [UInt8.ofNat (48 + u % 10)]
theorem digF_eq : ∀ (k u : Nat), u < 10 ^ (k + 1) → digF (k + 1) u = Lib.decDigits u
 | 0, u, h => by rw [Lib.decDigits, digF, if_pos (by simpa using h), dif_pos (by simpa using h)]
 | k + 1, u, h => by
  rw [Lib.decDigits, digF]
  by_cases hu : u < 10
  ·rw [if_pos hu, dif_pos hu]
  ·rw [if_neg hu, dif_neg hu, digF_eq k (u / 10) (by rw [Nat.pow_succ] at h; omega)]
def itoaL (n : Int) : List UInt8 := if n < 0 then 45 :: digF 20 n.natAbs else digF 20 n.toNat
theorem itoaL_eq (n : Int) (h0 : -9223372036854775808 ≤ n) (h1 : n ≤ 9223372036854775807) : itoaL n = Lib.itoa n := by
  unfold itoaL Lib.itoa
  split
  · rw [digF_eq 19 n.natAbs (by have : n.natAbs ≤ 9223372036854775808 := by omega
                                exact Nat.lt_of_le_of_lt this (by decide))]
  · rw [digF_eq 19 n.toNat (by have : n.toNat ≤ 9223372036854775807 := by omega
                               exact Nat.lt_of_le_of_lt this (by decide))]

theorem digF_length : ∀ (k u : Nat), (digF k u).length ≤ k
 | 0, _ => by simp [digF]
 | k + 1, u => by
  unfold digF
  split
  ·simp
  ·have := digF_length k (u / 10)
   simp only [List.length_append, List.length_cons, List.length_nil]; omega
theorem itoaL_length (n : Int) : (itoaL n).length ≤ 21 := by
 unfold itoaL
 split
 ·have := digF_length 20 n.natAbs
  simp only [List.length_cons]; omega
 ·have := digF_length 20 n.toNat
  omega
def textL (l : List Int) : List UInt8 := l.flatMap fun n => 32 :: itoaL n
theorem textL_snoc (l : List Int) (n : Int) : textL (l ++ [n]) = textL l ++ (32 :: itoaL n) := by simp [textL]
theorem textL_length (l : List Int) : (textL l).length ≤ 22 * l.length := by
 unfold textL
 induction l with
 | nil => simp
 | cons a l ih =>
  have := itoaL_length a
  simp only [List.flatMap_cons, List.length_append, List.length_cons]; omega
theorem take_snoc_getD {α : Type} (l : List α) (d : α) (k : Nat) (h : k < l.length) : l.take (k + 1) = l.take k ++ [l.getD k d] := by
 rw [List.take_succ_eq_append_getElem h]; simp [h]
def in64 (n : Int) : Bool := decide (-9223372036854775808 ≤ n ∧ n ≤ 9223372036854775807)

def consHead (x : UInt8) : List (List UInt8) → List (List UInt8)
 | [] => [[x]]
 | h :: t => (x :: h) :: t
def splitG (sep : List UInt8) : Nat → List UInt8 → List (List UInt8)
 | 0, s => [s]
 | k + 1, s => if sep.isPrefixOf s then [] :: splitG sep k (s.drop sep.length) else match s with
  | [] => [[]]
  | x :: r => consHead x (splitG sep k r)
def splitL (sep s : List UInt8) : List (List UInt8) := splitG sep (s.length + 1) s
theorem split_hit (sep s : List UInt8) (i k : Nat) (h : Lib.index s sep = i) : Lib.splitK sep 0 (k + 1) s = s.take i :: Lib.splitK sep 0 k (s.drop (i + sep.length)) := by
 have hm : ¬ (Lib.index s sep == -1) = true := fun e => by have := beq_iff_eq.1 e; omega
 have e : (Lib.index s sep).toNat = i := by omega
 rw [Lib.splitK, if_neg hm, e, Nat.add_zero]
theorem index_cons (x : UInt8) (r sep : List UInt8) (h : sep.isPrefixOf (x :: r) = false) : Lib.index (x :: r) sep = if Lib.index r sep = -1 then -1 else Lib.index r sep + 1 := by
 rw [Lib.index]; simp [h]
theorem count_cons (x : UInt8) (r sep : List UInt8) (hs : sep ≠ []) (h : sep.isPrefixOf (x :: r) = false) : Lib.count (x :: r) sep = Lib.count r sep := by
 rcases Lib.index_spec r sep with ⟨h1, _⟩ | ⟨i, h1, _⟩
 ·rw [Lib.count_miss h1, Lib.count_miss (by rw [index_cons x r sep h, if_pos h1])]
 ·rw [Lib.count_hit hs h1, Lib.count_hit (i := i + 1) hs (by rw [index_cons x r sep h, if_neg (by omega), h1]; rfl)]
  congr 2
  rw [show i + 1 + sep.length = (i + sep.length) + 1 from by omega, List.drop_succ_cons]
theorem splitG_eq (sep : List UInt8) (hs : sep ≠ []) : ∀ (k : Nat) (s : List UInt8), s.length < k → splitG sep k s = Lib.splitK sep 0 (Lib.count s sep) s
 | 0, s, h => by omega
 | k + 1, s, h => by
  have hl : 0 < sep.length := by cases sep with
   | nil => exact absurd rfl hs
   | cons => simp
  unfold splitG
  by_cases hp : sep.isPrefixOf s = true
  ·rw [if_pos hp]
   have hi : Lib.index s sep = (0 : Nat) := by
    cases s with
    | nil => cases sep with
     | nil => exact absurd rfl hs
     | cons => simp at hp
    | cons x r => rw [Lib.index, if_pos hp]; rfl
   have hlen : 0 < s.length := by
    cases s with
    | nil => cases sep with
     | nil => exact absurd rfl hs
     | cons => simp at hp
    | cons x r => simp
   rw [Lib.count_hit hs hi, Nat.add_comm, split_hit sep s 0 _ hi, Nat.zero_add, List.take_zero, splitG_eq sep hs k _ (by simp; omega)]
  ·have hp' : sep.isPrefixOf s = false := Bool.eq_false_iff.2 hp
   rw [if_neg hp]
   cases s with
   | nil =>
    show [[]] = _
    rw [Lib.count_miss (Lib.index_none (fun j hj => by simp at hj; subst hj; simpa [Lib.occAt] using hp'))]; rfl
   | cons x r =>
    show consHead x (splitG sep k r) = _
    rw [splitG_eq sep hs k r (by simp at h; omega), count_cons x r sep hs hp']
    rcases Lib.index_spec r sep with ⟨h1, _⟩ | ⟨i, h1, _⟩
    ·rw [Lib.count_miss h1]; rfl
    ·rw [Lib.count_hit hs h1, Nat.add_comm, split_hit sep r i _ h1, split_hit sep (x :: r) (i + 1) _ (by rw [index_cons x r sep hp', if_neg (by omega), h1]; rfl)]
     simp only [consHead, List.take_succ_cons]
     rw [show i + 1 + sep.length = (i + sep.length) + 1 from by omega, List.drop_succ_cons]
theorem splitL_eq (sep s : List UInt8) (hs : sep ≠ []) : splitL sep s = Lib.splitK sep 0 (Lib.count s sep) s := splitG_eq sep hs _ s (by omega)
def pieces (sep s : ByteArray) : List ByteArray := (splitL sep.data.toList s.data.toList).map fun l => ⟨l.toArray⟩
theorem pieces_eq (sep s : ByteArray) (hs : 1 ≤ sep.size) : pieces sep s = Lib.splitB sep 0 (Lib.countB s sep) s := by
 have hne : sep.data.toList ≠ [] := fun e => by
  have : sep.size = 0 := by rw [Lib.size_eq, e]; rfl
  omega
 unfold pieces
 rw [splitL_eq _ _ hne]
 have h := Lib.splitB_data sep 0 (Lib.countB s sep) s
 have h2 : Lib.countB s sep = Lib.count s.data.toList sep.data.toList := rfl
 rw [h2] at h
 rw [h2, ← h, List.map_map]
 conv => rhs; rw [← List.map_id (Lib.splitB sep 0 (Lib.count s.data.toList sep.data.toList) s)]
 apply List.map_congr_left
 intro b _
 exact ba_eta b

theorem split_length (sep : List UInt8) (hs : sep ≠ []) : ∀ (n : Nat) (s : List UInt8), s.length < n → (Lib.splitK sep 0 (Lib.count s sep) s).length = Lib.count s sep + 1
 | 0, _, h => by omega
 | n + 1, s, h => by
  rcases Lib.index_spec s sep with ⟨h1, _⟩ | ⟨i, h1, _⟩
  ·rw [Lib.count_miss h1]; rfl
  ·have hd := Lib.drop_shorter (s := s) hs (fun e => by have := beq_iff_eq.1 e; omega)
   rw [h1, Int.toNat_natCast] at hd
   rw [Lib.count_hit hs h1, Nat.add_comm 1, split_hit sep s i _ h1, List.length_cons, split_length sep hs n _ (by omega)]
theorem pieces_length (sep s : ByteArray) (hs : 1 ≤ sep.size) : (pieces sep s).length = Lib.countB s sep + 1 := by
 have hne : sep.data.toList ≠ [] := fun e => by
  have : sep.size = 0 := by rw [Lib.size_eq, e]; rfl
  omega
 unfold pieces
 rw [List.length_map, splitL_eq _ _ hne, split_length _ hne _ _ (Nat.lt_succ_self _)]

end Go.Proofs.YtdblkmnbkpphjaaGreatDoor
