/- The types of the laws' arguments, opened. -/
import Derived.Test.YtdblkmnbkpphjaaGreatDoorQOpen
import Derived.Test.YtdblkmnbkpphjaaGreatDoorBP0
namespace Go.Proofs.YtdblkmnbkpphjaaGreatDoor.P
open Go.RowKit Go.Proofs.YtdblkmnbkpphjaaGreatDoorW.PrintWords Go.Proofs.YtdblkmnbkpphjaaGreatDoorW.PrintLast Go.Proofs.YtdblkmnbkpphjaaGreatDoorW.PrintMore
def wf9 (x : ByteArray) : Prop := x.size ≤ 140737488351232
theorem op9 : Opens Tryz.prog 9 Kd.string wf9 := Opens.string Tryz.underlying9 (by kernel_rfl)
def wf3 (x : Int) : Prop := (Lit.int .i64 x).wf = true
theorem op3 : Opens Tryz.prog 3 (Kd.int .i64) wf3 := Opens.int Tryz.underlying3 (by kernel_rfl)
def wf23 (x : S23) : Prop := wf3 x.f0 ∧ wf3 x.f1 ∧ wf3 x.f2
theorem op23 : Opens Tryz.prog 23 k23 wf23 :=
 (Opens.struct Tryz.underlying23 (by kernel_rfl) (OpensF.cons op3 rfl <| OpensF.cons op3 rfl <| OpensF.one op3 rfl)).iso (fun x : S23 => (x.f0, x.f1, x.f2)) (fun y => ⟨y.1, y.2.1, y.2.2⟩) (fun _ => rfl)
def wf46 (x : S46) : Prop := wf3 x.f0 ∧ wf3 x.f1 ∧ wf3 x.f2 ∧ wf3 x.f3
theorem op46 : Opens Tryz.prog 46 k46 wf46 :=
 (Opens.struct Tryz.underlying46 (by kernel_rfl) (OpensF.cons op3 rfl <| OpensF.cons op3 rfl <| OpensF.cons op3 rfl <| OpensF.one op3 rfl)).iso (fun x : S46 => (x.f0, x.f1, x.f2, x.f3)) (fun y => ⟨y.1, y.2.1, y.2.2.1, y.2.2.2⟩) (fun _ => rfl)
def wf24 (x : List (S46)) : Prop := x.length * 32 ≤ 140737488351232 ∧ x.length ≤ 9223372036854775807 ∧ ∀ y ∈ x, wf46 y
theorem op24 : Opens Tryz.prog 24 (Kd.slice 46 k46) wf24 := (Opens.slice op46 Tryz.underlying24 (by kernel_rfl)).imp (fun x h => by rw [show Tryz.prog.bytesOf 46 = 32 by kernel_rfl] at h; exact h)
def wf26 (x : S26) : Prop := wf9 x.f0 ∧ wf3 x.f1 ∧ wf3 x.f2 ∧ wf23 x.f3 ∧ wf24 x.f4
theorem op26 : Opens Tryz.prog 26 k26 wf26 :=
 (Opens.struct Tryz.underlying26 (by kernel_rfl) (OpensF.cons op9 rfl <| OpensF.cons op3 rfl <| OpensF.cons op3 rfl <| OpensF.cons op23 rfl <| OpensF.one op24 rfl)).iso (fun x : S26 => (x.f0, x.f1, x.f2, x.f3, x.f4)) (fun y => ⟨y.1, y.2.1, y.2.2.1, y.2.2.2.1, y.2.2.2.2⟩) (fun _ => rfl)
end Go.Proofs.YtdblkmnbkpphjaaGreatDoor.P
