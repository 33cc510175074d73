/- A map to bools that the call makes: what its look-ups answer, as one function on keys. -/
import Derived.Test.YtgbidbhknffdoaaGreatDoorGL
import Derived.Maps.Own
import Derived.Maps.OwnOps
import Derived.Maps.Views
import Derived.StringKeys
namespace Go.Proofs.YtgbidbhknffdoaaGreatDoor
open Go Go.RowKit Go.Maps Go.Proofs.YtgbidbhknffdoaaGreatDoorW.PrintWords

/-- Block b is a map of at most n entries; a look-up at the key x (its literal: lit x) answers S x. -/
def BM {κ : Type} (P : Program) (lit : κ → Lit) (w : World) (k e : TypeId) (b n : Nat) (S : κ → Bool) : Prop :=
  ∃ D : DataW Unit, w.ownsMap P k (plainElem P e) b n D ∧ IsMap D ∧ ∀ x, D.atKey (lit x) (.lit (.bool false)) = .lit (.bool (S x))
section
variable {κ : Type} {P : Program} {lit : κ → Lit} {w w' : World} {k e t : TypeId} {b n : Nat} {S : κ → Bool}
theorem BM.made (P : Program) (lit : κ → Lit) (w : World) (k e : TypeId) : BM P lit (w.alloc (.map #[] 0)) k e w.heap.size 0 (fun _ => false) :=
  ⟨.map [], World.ownsMap_made w P k _, ⟨[], rfl⟩, fun _ => rfl⟩
theorem BM.below (h : BM P lit w k e b n S) (hb : Below w.heap.size w w') : BM P lit w' k e b n S := by
  obtain ⟨D, h1, h2, h3⟩ := h
  exact ⟨D, h1.kept (grown_of_below hb none) (by simp), h2, h3⟩
theorem BM.lookup (h : BM P lit w k e b n S) (K : Keyed P k) (ht : P.underlying t = some (.map k e)) (he : P.underlying e = some .bool) (hz : (zeroValue e).run P w = .ok (.bool false) w) {key : Value} (x : κ) (hk : keyOf P k key = some (lit x)) :
    (Instr.lookup t (.map (some b)) key false).run P w = .ok (.bool (S x)) w := by
  obtain ⟨D, h1, h2, h3⟩ := h
  obtain ⟨v, ps, hrun, hv⟩ := h1.lookup K ht hz (plainElem_bool he false) hk
  rw [h3 x] at hv
  rw [hrun]
  unfold plainElem at hv
  rw [he] at hv
  cases v <;> simp at hv
  rw [hv.1]
theorem BM.update [DecidableEq κ] (h : BM P lit w k e b n S) (K : Keyed P k) (ht : P.underlying t = some (.map k e)) (he : P.underlying e = some .bool) (hn : n < maxLen) (hl : ∀ x, WideAt.IsKeyLit (lit x)) (hi : ∀ x y, lit x = lit y → x = y) {key : Value} (x : κ) (hk : keyOf P k key = some (lit x)) (c : Bool) :
    ∃ w', (Instr.mapUpdate t (.map (some b)) key (.bool c)).run P w = .ok () w' ∧ BM P lit w' k e b (n + 1) (fun y => if y = x then c else S y) ∧ w.grownBy w' (some b) := by
  obtain ⟨D, h1, h2, h3⟩ := h
  obtain ⟨w', hrun, hown, hg⟩ := h1.update K ht hn hk (plainElem_bool he c)
  refine ⟨w', hrun, ⟨_, hown, h2.put _ _, fun y => ?_⟩, hg⟩
  by_cases hy : y = x
  · subst hy
    show _ = DataW.lit (Lit.bool (if y = y then c else S y))
    rw [if_pos rfl, atKey_put_same h2 (hl _)]
  · show _ = DataW.lit (Lit.bool (if y = x then c else S y))
    rw [if_neg hy, atKey_put_other (fun h => hy (hi _ _ h))]
    exact h3 y
end
/-- A string as a key. -/
def litS (s : ByteArray) : Lit := .string s.data.toList
theorem litS_inj (x y : ByteArray) (h : litS x = litS y) : x = y := ba_ext (by simpa [litS] using h)
theorem litS_key (x : ByteArray) : WideAt.IsKeyLit (litS x) := trivial
/-- An int as a key. -/
def litI (n : Int) : Lit := .int .i64 n
theorem litI_inj (x y : Int) (h : litI x = litI y) : x = y := by simpa [litI] using h
theorem litI_key (x : Int) : WideAt.IsKeyLit (litI x) := trivial
/-- Membership as a function, one element more. -/
theorem mem_snoc {α : Type} [BEq α] [LawfulBEq α] [DecidableEq α] (l : List α) (s : α) : (fun x => decide (x ∈ l ++ [s])) = fun y => if y = s then true else decide (y ∈ l) := by
  funext y
  by_cases h : y = s <;> simp [h]
end Go.Proofs.YtgbidbhknffdoaaGreatDoor
