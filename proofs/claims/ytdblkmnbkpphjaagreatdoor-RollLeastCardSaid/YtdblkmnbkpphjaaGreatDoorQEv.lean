/- A printed function with rounds comes to r: from some number of rounds on it says r. -/
import Derived.Test.YtdblkmnbkpphjaaGreatDoorBP0
import Derived.Test.YtdblkmnbkpphjaaGreatDoorBPlain
import Derived.Test.YtdblkmnbkpphjaaGreatDoorQOpens
namespace Go.Proofs.YtdblkmnbkpphjaaGreatDoor
open Go Go.RowKit Go.Proofs.YtdblkmnbkpphjaaGreatDoorW.PrintWords Go.Proofs.YtdblkmnbkpphjaaGreatDoorW.PrintLast Go.Proofs.YtdblkmnbkpphjaaGreatDoorW.PrintMore
def Ev {α : Type} (f : Nat → Option α) (r : α) : Prop := ∃ k0, ∀ k, k0 ≤ k → f k = some r
namespace Ev
variable {α β : Type}
theorem pure (r : α) : Ev (fun _ => some r) r := ⟨0, fun _ _ => rfl⟩
theorem bind {f : Nat → Option α} {g : Nat → α → Option β} {a : α} {r : β} (h : Ev f a) (hg : Ev (fun k => g k a) r) : Ev (fun k => (f k).bind (g k)) r := by
 obtain ⟨k0, h0⟩ := h
 obtain ⟨k1, h1⟩ := hg
 exact ⟨max k0 k1, fun k hk => by simp only [h0 k (by omega), Option.bind_some, h1 k (by omega)]⟩
theorem step {f h : Nat → Option α} {r : α} (hh : Ev h r) (e : ∀ k, f (k + 1) = h k) : Ev f r := by
 obtain ⟨k0, h0⟩ := hh
 refine ⟨k0 + 1, fun k hk => ?_⟩
 obtain ⟨j, rfl⟩ : ∃ j, k = j + 1 := ⟨k - 1, by omega⟩
 rw [e, h0 j (by omega)]
theorem pos {p : Prop} [Decidable p] {a b : Nat → Option α} {r : α} (hp : p) (h : Ev a r) : Ev (fun k => if p then a k else b k) r := by
 simp only [if_pos hp]; exact h
theorem some_ {f : Nat → Option α} {r : α} (h : Ev f r) : ∃ k, f k = some r := by
 obtain ⟨k0, h0⟩ := h
 exact ⟨k0, h0 k0 (Nat.le_refl _)⟩
end Ev
theorem wrap_succ {i : Nat} (h : i < 9223372036854775807) : wrap64 ((i : Int) + 1) = ((i + 1 : Nat) : Int) := by
 unfold wrap64
 omega
end Go.Proofs.YtdblkmnbkpphjaaGreatDoor
