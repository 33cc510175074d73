/- What the library's package-level variables hold, as one fact on the world (GL); and the library's contracts that our proofs use, under it. -/
import Derived.Test.YtdblkmnbkpphjaaGreatDoorBShelf
import Derived.Test.YtdblkmnbkpphjaaGreatDoorBPlain
import Derived.Test.YtdblkmnbkpphjaaGreatDoorBWWords
import Derived.Test.YtdblkmnbkpphjaaGreatDoorBWMore
import Derived.Lib.SmallJoins
import Derived.Lib.AppendIntMem
namespace Go.Proofs.YtdblkmnbkpphjaaGreatDoor
open Go Go.RowKit Go.Proofs.YtdblkmnbkpphjaaGreatDoorW.PrintWords

structure GL (w : World) : Prop where
 ml : ∃ m, w.cell? ⟨0, 0, none⟩ = some (.int .i64 m)
 p10 : Lib.TabIs Tryz.prog w "internal/strconv.uint64pow10" .u64 Lib.pow10Tab
 es : ∃ te pe, w.cell? ⟨6, 0, none⟩ = some (.iface te pe)
 er : ∃ te pe, w.cell? ⟨7, 0, none⟩ = some (.iface te pe)
 last : True
theorem GL.below {w w' : World} (h : GL w) (hb : Below w.heap.size w w') : GL w' where
 ml := h.ml.imp fun _ hm => pw_cell_below hb hm
 p10 := Joins.tab_stays (g := 1) (by kernel_rfl) h.p10 hb (Nat.le_refl _)
 es := h.es.imp fun _ hm => hm.imp fun _ hm => pw_cell_below hb hm
 er := h.er.imp fun _ hm => hm.imp fun _ hm => pw_cell_below hb hm
 last := trivial
theorem GL.alloc {w : World} (h : GL w) (o : Obj) : GL (w.alloc o) := h.below (below_alloc (Below.refl _ _) o)
theorem GL.drewN {w : World} (h : GL w) (n : Nat) : GL (w.drewN n) := h.below (pw_below_drewN (Below.refl _ _) n)

theorem addr_plain {w : World} {a : Addr} {v : Value} (h : w.cell? a = some v) : ∃ b o, a = ⟨b, o, none⟩ := by
 obtain ⟨b, o, s⟩ := a
 cases s with
 | none => exact ⟨b, o, rfl⟩
 | some s =>
  unfold World.cell? at h
  split at h <;> simp at h
theorem atoi_w {w w' : World} {e : Nat} (h : w' = w ∨ ∃ t, w' = Lib.bytesWorld w e t) : Below w.heap.size w w' := by
 rcases h with rfl | ⟨t, rfl⟩
 ·exact Below.refl _ _
 ·exact bytes_below (Below.refl _ _) (Nat.le_refl _) _ t

theorem strs_own (W : World) (xs : List ByteArray) (e : Nat) (hm : xs.length ≤ 9223372036854775807) :
  Kd.R Kd.string e (W.alloc (.cells (xs.map Value.string).toArray e)) W.heap.size (fun _ => True) (.slice (some ⟨W.heap.size, 0, none⟩) xs.length xs.length) xs := by
 refine ⟨fun _ _ => trivial, xs.map Value.string, ?_, ?_⟩
 ·have h := World.ownsRow_lit (base := W.heap.size) (e := e) (size := 1) W (xs.map Value.string).toArray xs.length (Nat.le_refl _) (by simpa [maxLen] using hm) (by simp)
  rw [List.toList_toArray] at h
  exact h
 ·refine ⟨by simp [Kd.string, Kd.scalar], fun j p hj => ?_⟩
  have hl : j < xs.length := (List.getElem?_eq_some_iff.1 hj).1
  have : (((xs.map Value.string).drop (j * 1)).take 1) = [.string p] := by
   rw [Nat.mul_one]
   have h1 : (xs.map Value.string)[j]? = some (.string p) := by simp [hj]
   rw [List.take_one, List.head?_drop, h1]; rfl
  exact this
end Go.Proofs.YtdblkmnbkpphjaaGreatDoor
