/- A printed function with rounds comes to r: from some number of rounds on it says r. -/
import Derived.Test.YtghnjnegcdbgnaaDoorBP0
import Derived.Test.YtghnjnegcdbgnaaDoorBPlain
import Derived.Test.YtghnjnegcdbgnaaDoorQOpens
namespace Go.Proofs.YtghnjnegcdbgnaaDoor
open Go Go.RowKit Go.Proofs.YtghnjnegcdbgnaaDoorW.PrintWords Go.Proofs.YtghnjnegcdbgnaaDoorW.PrintLast Go.Proofs.YtghnjnegcdbgnaaDoorW.PrintMore
def Ev {α : Type} (f : Nat → Option α) (r : α) : Prop := ∃ k0, ∀ k, k0 ≤ k → f k = some r
namespace Ev
variable {α β : Type}
theorem pure (r : α) : Ev (fun _ => some r) r := ⟨0, fun _ _ => rfl⟩
theorem const {f : Option α} {r : α} (h : f = some r) : Ev (fun _ => f) r := ⟨0, fun _ _ => h⟩
theorem bind {f : Nat → Option α} {g : Nat → α → Option β} {a : α} {r : β} (h : Ev f a) (hg : Ev (fun k => g k a) r) : Ev (fun k => (f k).bind (g k)) r := by
 obtain ⟨k0, h0⟩ := h
 obtain ⟨k1, h1⟩ := hg
 exact ⟨max k0 k1, fun k hk => by simp only [h0 k (by omega), Option.bind_some, h1 k (by omega)]⟩
theorem step {f h : Nat → Option α} {r : α} (hh : Ev h r) (e : ∀ k, f (k + 1) = h k) : Ev f r := by
 obtain ⟨k0, h0⟩ := hh
 refine ⟨k0 + 1, fun k hk => ?_⟩
 obtain ⟨j, rfl⟩ : ∃ j, k = j + 1 := ⟨k - 1, by omega⟩
 rw [e, h0 j (by omega)]
theorem pos {p : Prop} [Decidable p] {a b : Nat → Option α} {r : α} (hp : p) (h : Ev a r) : Ev (fun k => if p then a k else b k) r := by
 simp only [if_pos hp]; exact h
theorem neg {p : Prop} [Decidable p] {a b : Nat → Option α} {r : α} (hp : ¬ p) (h : Ev b r) : Ev (fun k => if p then a k else b k) r := by
 simp only [if_neg hp]; exact h
theorem some_ {f : Nat → Option α} {r : α} (h : Ev f r) : ∃ k, f k = some r := by
 obtain ⟨k0, h0⟩ := h
 exact ⟨k0, h0 k0 (Nat.le_refl _)⟩
theorem of_mono {f : Nat → Option α} {r : α} (hm : ∀ k, LeO (f k) (f (k + 1))) {k0 : Nat} (h : f k0 = some r) : Ev f r := by
  refine ⟨k0, fun k hk => ?_⟩
  induction k with
  | zero => obtain rfl : k0 = 0 := by omega
            exact h
  | succ n ih =>
    by_cases hn : k0 ≤ n
    · exact hm n r (ih hn)
    · obtain rfl : k0 = n + 1 := by omega
      exact h
end Ev
theorem wrap_succ {i : Nat} (h : i < 9223372036854775807) : wrap64 ((i : Int) + 1) = ((i + 1 : Nat) : Int) := by
 unfold wrap64
 omega
end Go.Proofs.YtghnjnegcdbgnaaDoor
