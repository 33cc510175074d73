/- The types of the laws' arguments, opened. -/
import Derived.Test.YtghnjnegcdbgnaaDoorQOpen
import Derived.Test.YtghnjnegcdbgnaaDoorBP0
namespace Go.Proofs.YtghnjnegcdbgnaaDoor.P
open Go.RowKit Go.Proofs.YtghnjnegcdbgnaaDoorW.PrintWords Go.Proofs.YtghnjnegcdbgnaaDoorW.PrintLast Go.Proofs.YtghnjnegcdbgnaaDoorW.PrintMore
def wf3 (x : Int) : Prop := (Lit.int .i64 x).wf = true
theorem op3 : Opens Tryd.prog 3 (Kd.int .i64) wf3 := Opens.int Tryd.underlying3 (by kernel_rfl)
structure S23 where
 f0 : Int
 f1 : Int
def k23 : Kd S23 := Kd.iso (Kd.pair (Kd.int .i64) (Kd.int .i64)) (fun x : S23 => (x.f0, x.f1))
def wf23 (x : S23) : Prop := wf3 x.f0 ∧ wf3 x.f1
theorem op23 : Opens Tryd.prog 23 k23 wf23 :=
 (Opens.struct Tryd.underlying23 (by kernel_rfl) (OpensF.cons op3 rfl <| OpensF.one op3 rfl)).iso (fun x : S23 => (x.f0, x.f1)) (fun y => ⟨y.1, y.2⟩) (fun _ => rfl)
def wf24 (x : List (Int)) : Prop := x.length * 8 ≤ 140737488351232 ∧ x.length ≤ 9223372036854775807 ∧ ∀ y ∈ x, wf3 y
theorem op24 : Opens Tryd.prog 24 (Kd.slice 3 (Kd.int .i64)) wf24 := (Opens.slice op3 Tryd.underlying24 (by kernel_rfl)).imp (fun x h => by rw [show Tryd.prog.bytesOf 3 = 8 by kernel_rfl] at h; exact h)
def wf4 (_ : Bool) : Prop := True
theorem op4 : Opens Tryd.prog 4 Kd.bool wf4 := Opens.bool Tryd.underlying4 (by kernel_rfl)
def wf43 (x : S43) : Prop := wf4 x.f0 ∧ wf3 x.f1
theorem op43 : Opens Tryd.prog 43 k43 wf43 :=
 (Opens.struct Tryd.underlying43 (by kernel_rfl) (OpensF.cons op4 rfl <| OpensF.one op3 rfl)).iso (fun x : S43 => (x.f0, x.f1)) (fun y => ⟨y.1, y.2⟩) (fun _ => rfl)
def wf44 (x : S44) : Prop := wf3 x.f0 ∧ wf3 x.f1
theorem op44 : Opens Tryd.prog 44 k44 wf44 :=
 (Opens.struct Tryd.underlying44 (by kernel_rfl) (OpensF.cons op3 rfl <| OpensF.one op3 rfl)).iso (fun x : S44 => (x.f0, x.f1)) (fun y => ⟨y.1, y.2⟩) (fun _ => rfl)
def wf46 (x : S46) : Prop := wf3 x.f0 ∧ wf3 x.f1 ∧ wf3 x.f2 ∧ wf43 x.f3 ∧ wf44 x.f4
theorem op46 : Opens Tryd.prog 46 k46 wf46 :=
 (Opens.struct Tryd.underlying46 (by kernel_rfl) (OpensF.cons op3 rfl <| OpensF.cons op3 rfl <| OpensF.cons op3 rfl <| OpensF.cons op43 rfl <| OpensF.one op44 rfl)).iso (fun x : S46 => (x.f0, x.f1, x.f2, x.f3, x.f4)) (fun y => ⟨y.1, y.2.1, y.2.2.1, y.2.2.2.1, y.2.2.2.2⟩) (fun _ => rfl)
def wf25 (x : List (S46)) : Prop := x.length * 56 ≤ 140737488351232 ∧ x.length ≤ 9223372036854775807 ∧ ∀ y ∈ x, wf46 y
theorem op25 : Opens Tryd.prog 25 (Kd.slice 46 k46) wf25 := (Opens.slice op46 Tryd.underlying25 (by kernel_rfl)).imp (fun x h => by rw [show Tryd.prog.bytesOf 46 = 56 by kernel_rfl] at h; exact h)
structure S27 where
 f0 : Int
 f1 : Int
 f2 : S23
 f3 : List (Int)
 f4 : List (S46)
def k27 : Kd S27 := Kd.iso (Kd.pair (Kd.int .i64) (Kd.pair (Kd.int .i64) (Kd.pair k23 (Kd.pair (Kd.slice 3 (Kd.int .i64)) (Kd.slice 46 k46))))) (fun x : S27 => (x.f0, x.f1, x.f2, x.f3, x.f4))
def wf27 (x : S27) : Prop := wf3 x.f0 ∧ wf3 x.f1 ∧ wf23 x.f2 ∧ wf24 x.f3 ∧ wf25 x.f4
theorem op27 : Opens Tryd.prog 27 k27 wf27 :=
 (Opens.struct Tryd.underlying27 (by kernel_rfl) (OpensF.cons op3 rfl <| OpensF.cons op3 rfl <| OpensF.cons op23 rfl <| OpensF.cons op24 rfl <| OpensF.one op25 rfl)).iso (fun x : S27 => (x.f0, x.f1, x.f2, x.f3, x.f4)) (fun y => ⟨y.1, y.2.1, y.2.2.1, y.2.2.2.1, y.2.2.2.2⟩) (fun _ => rfl)
end Go.Proofs.YtghnjnegcdbgnaaDoor.P
