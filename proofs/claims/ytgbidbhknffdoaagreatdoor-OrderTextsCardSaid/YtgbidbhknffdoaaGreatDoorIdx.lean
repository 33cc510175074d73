/- slices.IndexFunc and slices.ContainsFunc at elements of one cell, under a contract of the function value that makes memory of its own. -/
import Derived.Test.YtgbidbhknffdoaaGreatDoorGL
import Derived.Deep.LoopGhost
import Derived.Deep.DeepCutAuto
namespace Go.Proofs.YtgbidbhknffdoaaGreatDoor
open Go Go.RowKit Go.Proofs.YtgbidbhknffdoaaGreatDoorW.PrintWords

theorem enters_of {P : Program} {f : FuncId} {fn : Func} {c : Code} (hf : P.funcs[f]? = some fn) (hname : (fn.name == "runtime.NumGoroutine") = false) (hb : fn.body = some c) (args : Array Value) (w : World) : (callFunc f args).run P w = .ok (.enter f args) w := by
  have h1 : fn.name ≠ "runtime.NumGoroutine" := by simpa using hname
  simp [callFunc, hf, h1, hb]

/-- The first place whose element answers yes, from i on; -1 if there is none. -/
def idxFrom {α : Type} (p : α → Bool) : Int → List α → Int
  | _, [] => -1
  | i, x :: l => if p x then i else idxFrom p (i + 1) l
theorem idxFrom_drop {α : Type} (p : α → Bool) (l : List α) (k : Nat) (h : k < l.length) : idxFrom p (k : Int) (l.drop k) = if p l[k] then (k : Int) else idxFrom p ((k + 1 : Nat) : Int) (l.drop (k + 1)) := by
  rw [List.drop_eq_getElem_cons h, idxFrom]; rfl
theorem idxFrom_any {α : Type} (p : α → Bool) : ∀ (l : List α) (i : Int), 0 ≤ i → decide (0 ≤ idxFrom p i l) = l.any p
  | [], i, h => by simp [idxFrom]
  | x :: l, i, h => by
    rw [idxFrom, List.any_cons]
    cases hx : p x with
    | true => simp [h]
    | false => simpa using idxFrom_any p l (i + 1) (by omega)
set_option maxHeartbeats 1000000 in
theorem indexFunc_int (g : Nat) (lb : Array Value) (eg : ∀ args w, (callFunc g args).run Tryz.prog w = .ok (.enter g args) w) (p : Int → Bool) (A : Option Addr) (c : Nat) (l : List Int) (w : World) (hr : Kd.C (Kd.int .i64) w A l.length l)
    (hp : ∀ x ∈ l, ∀ W : World, Below w.heap.size w W → Calls Tryz.prog g (#[.int .i64 x] ++ lb) W fun e w' => e = .returned (.bool (p x)) ∧ Below W.heap.size W w') :
    Calls Tryz.prog 51 #[.slice A l.length c, .func (.func g) #[] lb] w fun e w' => e = .returned (.int .i64 (idxFrom p 0 l)) ∧ Below w.heap.size w w' := by
  have HR := Aside0.mk hr
  have HP := Aside0.mk hp
  have hlm : l.length ≤ 9223372036854775807 := hr.2.1
  clear hr hp
  go_enter Tryz.func51, Tryz.ntmps51
  go_wp2
  go_loopw [8] (fun i wr => ∃ k : Nat, k ≤ l.length ∧ i = .int .i64 k ∧ Aside0 (idxFrom p 0 l = idxFrom p (k : Int) (l.drop k)) ∧ Aside0 (Below w.heap.size w wr)) (fun i _ => l.length - (intOf i).toNat)
  case atStart => exact ⟨0, Nat.zero_le _, rfl, ⟨rfl⟩, ⟨Below.refl _ _⟩⟩
  case round =>
    obtain ⟨k, hk, rfl, HI, HB⟩ := hrel
    by_cases hlt : k < l.length
    · obtain ⟨ad, e1, hx0⟩ := Kd.at_int HR.out (k : Int) (by omega) (by omega)
      cases e1
      replace hx0 := (HB.out.cell (World.block_lt_of_cell? w _ hx0)).trans hx0
      rw [Int.toNat_natCast] at hx0
      have e : rd l (k : Int) = l[k] := by simp [rd, hlt]
      rw [e] at hx0
      have H1 := Aside0.mk (HP.out l[k] (List.getElem_mem hlt))
      have H2 := Aside0.mk (idxFrom_drop p l k hlt)
      clear e
      generalize l[k] = x at *
      cases hpx : p x with
      | true =>
        rw [hpx] at H1 H2
        clear hpx
        go_wp2_with (go_at_fn g; refine (H1.out _ HB.out).mono ?_; rintro e w' ⟨rfl, hb⟩; have HB2 := Aside0.mk (below_step HB.out hb); clear hb)
        go_ret
        exact ⟨by rw [HI.out, H2.out]; rfl, HB2.out⟩
      | false =>
        rw [hpx] at H1 H2
        clear hpx
        go_wp2_with (go_at_fn g; refine (H1.out _ HB.out).mono ?_; rintro e w' ⟨rfl, hb⟩; have HB2 := Aside0.mk (below_step HB.out hb); clear hb)
        go_roundw
        case rel => exact ⟨k + 1, by omega, by go_num, ⟨by rw [HI.out, H2.out]; rfl⟩, HB2⟩
        case measure => simp [intOf]; omega
    · obtain rfl : k = l.length := by omega
      go_wp2
      go_ret
      exact ⟨by rw [HI.out, List.drop_length]; rfl, HB.out⟩
set_option maxHeartbeats 1000000 in
theorem containsFunc_int (g : Nat) (lb : Array Value) (eg : ∀ args w, (callFunc g args).run Tryz.prog w = .ok (.enter g args) w) (p : Int → Bool) (A : Option Addr) (c : Nat) (l : List Int) (w : World) (hr : Kd.C (Kd.int .i64) w A l.length l)
    (hp : ∀ x ∈ l, ∀ W : World, Below w.heap.size w W → Calls Tryz.prog g (#[.int .i64 x] ++ lb) W fun e w' => e = .returned (.bool (p x)) ∧ Below W.heap.size W w') :
    Calls Tryz.prog 37 #[.slice A l.length c, .func (.func g) #[] lb] w fun e w' => e = .returned (.bool (l.any p)) ∧ Below w.heap.size w w' := by
  have H := Aside0.mk (indexFunc_int g lb eg p A c l w hr hp)
  have HE := Aside0.mk (idxFrom_any p l 0 (Int.le_refl _))
  clear hr hp
  generalize idxFrom p 0 l = n at *
  generalize l.any p = b at *
  obtain rfl := HE.out
  clear HE
  go_enter Tryz.func37, Tryz.ntmps37
  go_wp2_with (go_at_call 51; refine H.out.mono ?_; rintro e w' ⟨rfl, hb⟩)
  go_ret
  exact ⟨rfl, hb⟩
set_option maxHeartbeats 1000000 in
theorem indexFunc_string (g : Nat) (lb : Array Value) (eg : ∀ args w, (callFunc g args).run Tryz.prog w = .ok (.enter g args) w) (p : ByteArray → Bool) (A : Option Addr) (c : Nat) (l : List ByteArray) (w : World) (hr : Kd.C Kd.string w A l.length l)
    (hp : ∀ x ∈ l, ∀ W : World, Below w.heap.size w W → Calls Tryz.prog g (#[.string x] ++ lb) W fun e w' => e = .returned (.bool (p x)) ∧ Below W.heap.size W w') :
    Calls Tryz.prog 35 #[.slice A l.length c, .func (.func g) #[] lb] w fun e w' => e = .returned (.int .i64 (idxFrom p 0 l)) ∧ Below w.heap.size w w' := by
  have HR := Aside0.mk hr
  have HP := Aside0.mk hp
  have hlm : l.length ≤ 9223372036854775807 := hr.2.1
  clear hr hp
  go_enter Tryz.func35, Tryz.ntmps35
  go_wp2
  go_loopw [8] (fun i wr => ∃ k : Nat, k ≤ l.length ∧ i = .int .i64 k ∧ Aside0 (idxFrom p 0 l = idxFrom p (k : Int) (l.drop k)) ∧ Aside0 (Below w.heap.size w wr)) (fun i _ => l.length - (intOf i).toNat)
  case atStart => exact ⟨0, Nat.zero_le _, rfl, ⟨rfl⟩, ⟨Below.refl _ _⟩⟩
  case round =>
    obtain ⟨k, hk, rfl, HI, HB⟩ := hrel
    by_cases hlt : k < l.length
    · obtain ⟨ad, e1, hx0⟩ := Kd.at_string HR.out (k : Int) (by omega) (by omega)
      cases e1
      replace hx0 := (HB.out.cell (World.block_lt_of_cell? w _ hx0)).trans hx0
      rw [Int.toNat_natCast] at hx0
      have e : rdOf ByteArray.empty l (k : Int) = l[k] := by simp [rdOf, hlt]
      rw [e] at hx0
      have H1 := Aside0.mk (HP.out l[k] (List.getElem_mem hlt))
      have H2 := Aside0.mk (idxFrom_drop p l k hlt)
      clear e
      generalize l[k] = x at *
      cases hpx : p x with
      | true =>
        rw [hpx] at H1 H2
        clear hpx
        go_wp2_with (go_at_fn g; refine (H1.out _ HB.out).mono ?_; rintro e w' ⟨rfl, hb⟩; have HB2 := Aside0.mk (below_step HB.out hb); clear hb)
        go_ret
        exact ⟨by rw [HI.out, H2.out]; rfl, HB2.out⟩
      | false =>
        rw [hpx] at H1 H2
        clear hpx
        go_wp2_with (go_at_fn g; refine (H1.out _ HB.out).mono ?_; rintro e w' ⟨rfl, hb⟩; have HB2 := Aside0.mk (below_step HB.out hb); clear hb)
        go_roundw
        case rel => exact ⟨k + 1, by omega, by go_num, ⟨by rw [HI.out, H2.out]; rfl⟩, HB2⟩
        case measure => simp [intOf]; omega
    · obtain rfl : k = l.length := by omega
      go_wp2
      go_ret
      exact ⟨by rw [HI.out, List.drop_length]; rfl, HB.out⟩
set_option maxHeartbeats 1000000 in
theorem containsFunc_string (g : Nat) (lb : Array Value) (eg : ∀ args w, (callFunc g args).run Tryz.prog w = .ok (.enter g args) w) (p : ByteArray → Bool) (A : Option Addr) (c : Nat) (l : List ByteArray) (w : World) (hr : Kd.C Kd.string w A l.length l)
    (hp : ∀ x ∈ l, ∀ W : World, Below w.heap.size w W → Calls Tryz.prog g (#[.string x] ++ lb) W fun e w' => e = .returned (.bool (p x)) ∧ Below W.heap.size W w') :
    Calls Tryz.prog 22 #[.slice A l.length c, .func (.func g) #[] lb] w fun e w' => e = .returned (.bool (l.any p)) ∧ Below w.heap.size w w' := by
  have H := Aside0.mk (indexFunc_string g lb eg p A c l w hr hp)
  have HE := Aside0.mk (idxFrom_any p l 0 (Int.le_refl _))
  clear hr hp
  generalize idxFrom p 0 l = n at *
  generalize l.any p = b at *
  obtain rfl := HE.out
  clear HE
  go_enter Tryz.func22, Tryz.ntmps22
  go_wp2_with (go_at_call 35; refine H.out.mono ?_; rintro e w' ⟨rfl, hb⟩)
  go_ret
  exact ⟨rfl, hb⟩

end Go.Proofs.YtgbidbhknffdoaaGreatDoor
