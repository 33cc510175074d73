/- slices.IndexFunc and slices.ContainsFunc at elements of one cell, under a contract of the function value that makes memory of its own. -/
import Derived.Test.YtdblkmnbkpphjaaGreatDoorBGL
import Derived.Deep.LoopGhost
import Derived.Deep.DeepCutAuto
namespace Go.Proofs.YtdblkmnbkpphjaaGreatDoor
open Go Go.RowKit Go.Proofs.YtdblkmnbkpphjaaGreatDoorW.PrintWords

theorem enters_of {P : Program} {f : FuncId} {fn : Func} {c : Code} (hf : P.funcs[f]? = some fn) (hname : (fn.name == "runtime.NumGoroutine") = false) (hb : fn.body = some c) (args : Array Value) (w : World) : (callFunc f args).run P w = .ok (.enter f args) w := by
 have h1 : fn.name ≠ "runtime.NumGoroutine" := by simpa using hname
 simp [callFunc, hf, h1, hb]

def idxFrom {α : Type} (p : α → Bool) : Int → List α → Int
 | _, [] => -1
 | i, x :: l => if p x then i else idxFrom p (i + 1) l
theorem idxFrom_drop {α : Type} (p : α → Bool) (l : List α) (k : Nat) (h : k < l.length) : idxFrom p (k : Int) (l.drop k) = if p l[k] then (k : Int) else idxFrom p ((k + 1 : Nat) : Int) (l.drop (k + 1)) := by
 rw [List.drop_eq_getElem_cons h, idxFrom]; rfl
theorem idxFrom_any {α : Type} (p : α → Bool) : ∀ (l : List α) (i : Int), 0 ≤ i → decide (0 ≤ idxFrom p i l) = l.any p
 | [], i, h => by simp [idxFrom]
 | x :: l, i, h => by
  rw [idxFrom, List.any_cons]
  cases hx : p x with
  | true => simp [h]
  | false => simpa using idxFrom_any p l (i + 1) (by omega)

end Go.Proofs.YtdblkmnbkpphjaaGreatDoor
