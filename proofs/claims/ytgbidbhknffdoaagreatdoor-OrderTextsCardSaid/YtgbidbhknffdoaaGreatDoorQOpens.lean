/- The types of the laws' arguments, opened. -/
import Derived.Test.YtgbidbhknffdoaaGreatDoorQOpen
import Derived.Test.YtgbidbhknffdoaaGreatDoorP0
namespace Go.Proofs.YtgbidbhknffdoaaGreatDoor.P
open Go.RowKit Go.Proofs.YtgbidbhknffdoaaGreatDoorW.PrintWords Go.Proofs.YtgbidbhknffdoaaGreatDoorW.PrintLast Go.Proofs.YtgbidbhknffdoaaGreatDoorW.PrintMore
def wf3 (x : Int) : Prop := (Lit.int .i64 x).wf = true
theorem op3 : Opens Tryz.prog 3 (Kd.int .i64) wf3 := Opens.int Tryz.underlying3 (by kernel_rfl)
def wf22 (x : List (Int)) : Prop := x.length * 8 ≤ 140737488351232 ∧ x.length ≤ 9223372036854775807 ∧ ∀ y ∈ x, wf3 y
theorem op22 : Opens Tryz.prog 22 (Kd.slice 3 (Kd.int .i64)) wf22 := (Opens.slice op3 Tryz.underlying22 (by kernel_rfl)).imp (fun x h => by rw [show Tryz.prog.bytesOf 3 = 8 by kernel_rfl] at h; exact h)
def wf9 (x : ByteArray) : Prop := x.size ≤ 140737488351232
theorem op9 : Opens Tryz.prog 9 Kd.string wf9 := Opens.string Tryz.underlying9 (by kernel_rfl)
def wf23 (x : List (ByteArray)) : Prop := x.length * 16 ≤ 140737488351232 ∧ x.length ≤ 9223372036854775807 ∧ ∀ y ∈ x, wf9 y
theorem op23 : Opens Tryz.prog 23 (Kd.slice 9 Kd.string) wf23 := (Opens.slice op9 Tryz.underlying23 (by kernel_rfl)).imp (fun x h => by rw [show Tryz.prog.bytesOf 9 = 16 by kernel_rfl] at h; exact h)
end Go.Proofs.YtgbidbhknffdoaaGreatDoor.P
