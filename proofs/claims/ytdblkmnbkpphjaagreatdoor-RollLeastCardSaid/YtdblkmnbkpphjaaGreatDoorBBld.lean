/- strings.Builder beside other blocks of the call's own: the shelf's contracts, with what stays. -/
import Derived.Test.YtdblkmnbkpphjaaGreatDoorBGL
import Derived.Test.YtdblkmnbkpphjaaGreatDoorBIdx
import Derived.Shelf.Strings.BuilderK
namespace Go.Proofs.YtdblkmnbkpphjaaGreatDoor
open Go Go.RowKit Go.Proofs.YtdblkmnbkpphjaaGreatDoorW.PrintWords
def Bld (B b : Nat) (l : List UInt8) (w : World) : Prop := Lib.IsBuilderF 55 5 B b (Lib.byteCells l) w
theorem bld_new (w : World) (B : Nat) (h : B ≤ w.heap.size) : Bld B w.heap.size [] (w.alloc (.cells #[.pointer none, .slice none 0 0] 55)) := by
 exact .inl ⟨h, .slice none 0 0, heap_alloc_new w _, World.ownsRowF_of (World.ownsRow_nil _ _ _ _), by intro hh; cases hh⟩
theorem bld_write (B b : Nat) (l : List UInt8) (s : ByteArray) (w : World) (h : Bld B b l w) (hlen : l.length + s.size ≤ 140737488355328) (hBw : B ≤ w.heap.size) :
  Calls Tryz.prog 31 #[.pointer (some ⟨b, 0, none⟩), .string s] w fun e w' => e = .returned (.tuple #[.int .i64 s.size, .nilIface]) ∧ Bld B b (l ++ s.data.toList) w' ∧ Below B w w' ∧ Lib.OthersKept 5 (some b) w w' := by
 refine (Any.Builder_WriteString_k Tryz.lays166 Tryz.Builder_Extra_166 B b _ s w h (by rw [Lib.byteCells_length]; exact hlen) hBw).mono ?_
 rintro e w' ⟨h1, h2, h3, h4⟩
 refine ⟨h1, ?_, h3, h4⟩
 unfold Bld
 rw [Lib.byteCells_append]
 exact .inr h2
theorem bld_below {B b : Nat} {l : List UInt8} {w w' : World} (h : Bld B b l w) (hb : Below w.heap.size w w') : Bld B b l w' := by
 have own : ∀ {v : Value} {n : Nat} {xs : List Value}, w.ownsRowF B 5 1 v n xs → w'.ownsRowF B 5 1 v n xs := fun h => World.ownsRowF.kept h (grown_of_below hb none) (Classical.em _)
 rcases h with ⟨h1, v, h2, h3, h4⟩ | ⟨h1, v, h2, h3, h4⟩
 ·exact .inl ⟨h1, v, blk_below h2 hb, own h3, h4⟩
 ·exact .inr ⟨h1, v, blk_below h2 hb, own h3, h4⟩
theorem bld_lt {B b : Nat} {l : List UInt8} {w : World} (h : Bld B b l w) : b < w.heap.size := by
 rcases h with ⟨_, v, h2, _⟩ | ⟨_, v, h2, _⟩
 ·exact blk_lt h2
 ·exact blk_lt h2
theorem kept_blk {e b g : Nat} {w w' : World} {cs : Array Value} {t : TypeId} {fz : Nat × Nat} (h : w.heap[g]? = some (.cells cs t fz)) (hk : Lib.OthersKept e (some b) w w') (hg : g ≠ b) (ht : t ≠ e) : w'.heap[g]? = some (.cells cs t fz) :=
 hk g _ h (fun hh => hg (Option.some.inj hh)) (fun c fz' hh => by injection hh with _ h2 _; exact ht h2)
theorem bld_string (B b : Nat) (l : List UInt8) (w : World) (h : Bld B b l w) (hBw : B ≤ w.heap.size) :
  Calls Tryz.prog 33 #[.pointer (some ⟨b, 0, none⟩)] w fun e w' => e = .returned (.string ⟨l.toArray⟩) ∧ Bld B b l w' ∧ Below B w w' ∧ Lib.OthersKept 5 (some b) w w' :=
 Any.Builder_String_any_k Tryz.lays169 Tryz.Builder_Extra_169 B b l w h hBw
end Go.Proofs.YtdblkmnbkpphjaaGreatDoor
