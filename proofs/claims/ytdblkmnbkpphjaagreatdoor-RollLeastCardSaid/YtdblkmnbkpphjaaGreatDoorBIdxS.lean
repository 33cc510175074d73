/- slices.IndexFunc and slices.ContainsFunc at slices of structs: laid by idxs.py (ours). -/
import Derived.Test.YtdblkmnbkpphjaaGreatDoorBP0
import Derived.Test.YtdblkmnbkpphjaaGreatDoorBIdx
namespace Go.Proofs.YtdblkmnbkpphjaaGreatDoor.P
set_option linter.unusedVariables false
open Go.RowKit Go.Proofs.YtdblkmnbkpphjaaGreatDoor Go.Proofs.YtdblkmnbkpphjaaGreatDoorW.PrintWords Go.Proofs.YtdblkmnbkpphjaaGreatDoorW.PrintLast Go.Proofs.YtdblkmnbkpphjaaGreatDoorW.PrintMore
set_option maxHeartbeats 2000000 in
set_option maxRecDepth 100000 in
theorem indexFunc_T26 (g : Nat) (lb : Array Value) (eg : ∀ args w, (callFunc g args).run Tryz.prog w = .ok (.enter g args) w) (p : S26 → Bool) (A : Option Addr) (c : Nat) (l : List S26) (w : World) (hr : Kd.C k26 w A l.length l)
  (hp : ∀ x ∈ l, ∀ (A6 : Option Addr) (c6 : Nat), x.f4.length ≤ c6 → k46.C w A6 x.f4.length x.f4 → ∀ W : World, Below w.heap.size w W → Calls Tryz.prog g (#[.agg #[.string x.f0, .int .i64 x.f1, .int .i64 x.f2, .int .i64 x.f3.f0, .int .i64 x.f3.f1, .int .i64 x.f3.f2, .slice A6 x.f4.length c6]] ++ lb) W fun e w' => e = .returned (.bool (p x)) ∧ Below W.heap.size W w') :
  Calls Tryz.prog 59 #[.slice A l.length c, .func (.func g) #[] lb] w fun e w' => e = .returned (.int .i64 (idxFrom p 0 l)) ∧ Below w.heap.size w w' := by
 have HR := Aside0.mk hr
 have HP := Aside0.mk hp
 have hlm : l.length ≤ 9223372036854775807 := hr.2.1
 clear hr hp
 go_enter Tryz.func59, Tryz.ntmps59
 go_wp2
 go_loopw [8] (fun i wr => ∃ k : Nat, k ≤ l.length ∧ i = .int .i64 k ∧ Aside0 (idxFrom p 0 l = idxFrom p (k : Int) (l.drop k)) ∧ Aside0 (Below w.heap.size w wr)) (fun i _ => l.length - (intOf i).toNat)
 case atStart => exact ⟨0, Nat.zero_le _, rfl, ⟨rfl⟩, ⟨Below.refl _ _⟩⟩
 case round =>
  obtain ⟨k, hk, rfl, HI, HB⟩ := hrel
  by_cases hlt : k < l.length
  ·obtain ⟨ad, A6, c6, e1, hx0, hx1, hx2, hx3, hx4, hx5, hx6, he0, he1⟩ := at_T26 HR.out (k : Int) (by omega) (by omega)
   cases e1
   replace hx0 := (HB.out.cell (World.block_lt_of_cell? w _ hx0)).trans hx0
   replace hx1 := (HB.out.cell (World.block_lt_of_cell? w _ hx1)).trans hx1
   replace hx2 := (HB.out.cell (World.block_lt_of_cell? w _ hx2)).trans hx2
   replace hx3 := (HB.out.cell (World.block_lt_of_cell? w _ hx3)).trans hx3
   replace hx4 := (HB.out.cell (World.block_lt_of_cell? w _ hx4)).trans hx4
   replace hx5 := (HB.out.cell (World.block_lt_of_cell? w _ hx5)).trans hx5
   replace hx6 := (HB.out.cell (World.block_lt_of_cell? w _ hx6)).trans hx6
   rw [Int.toNat_natCast] at hx0 hx1 hx2 hx3 hx4 hx5 hx6
   have e : rd_T26 l (k : Int) = l[k] := by simp [rd_T26, hlt]
   rw [e] at hx0 hx1 hx2 hx3 hx4 hx5 hx6 he0 he1
   have H1 := Aside0.mk (HP.out l[k] (List.getElem_mem hlt) A6 c6 he0 he1)
   have H2 := Aside0.mk (idxFrom_drop p l k hlt)
   clear e he0 he1
   generalize l[k] = x at *
   cases hpx : p x with
   | true =>
    rw [hpx] at H1 H2
    clear hpx
    go_wp2_with (go_at_fn g; refine (H1.out _ HB.out).mono ?_; rintro e w' ⟨rfl, hb⟩; have HB2 := Aside0.mk (below_step HB.out hb); clear hb)
    go_ret
    exact ⟨by rw [HI.out, H2.out]; rfl, HB2.out⟩
   | false =>
    rw [hpx] at H1 H2
    clear hpx
    go_wp2_with (go_at_fn g; refine (H1.out _ HB.out).mono ?_; rintro e w' ⟨rfl, hb⟩; have HB2 := Aside0.mk (below_step HB.out hb); clear hb)
    go_roundw
    case rel => exact ⟨k + 1, by omega, by go_num, ⟨by rw [HI.out, H2.out]; rfl⟩, HB2⟩
    case measure => simp [intOf]; omega
  ·obtain rfl : k = l.length := by omega
   go_wp2
   go_ret
   exact ⟨by rw [HI.out, List.drop_length]; rfl, HB.out⟩

set_option maxHeartbeats 1000000 in
theorem containsFunc_T26 (g : Nat) (lb : Array Value) (eg : ∀ args w, (callFunc g args).run Tryz.prog w = .ok (.enter g args) w) (p : S26 → Bool) (A : Option Addr) (c : Nat) (l : List S26) (w : World) (hr : Kd.C k26 w A l.length l)
  (hp : ∀ x ∈ l, ∀ (A6 : Option Addr) (c6 : Nat), x.f4.length ≤ c6 → k46.C w A6 x.f4.length x.f4 → ∀ W : World, Below w.heap.size w W → Calls Tryz.prog g (#[.agg #[.string x.f0, .int .i64 x.f1, .int .i64 x.f2, .int .i64 x.f3.f0, .int .i64 x.f3.f1, .int .i64 x.f3.f2, .slice A6 x.f4.length c6]] ++ lb) W fun e w' => e = .returned (.bool (p x)) ∧ Below W.heap.size W w') :
  Calls Tryz.prog 49 #[.slice A l.length c, .func (.func g) #[] lb] w fun e w' => e = .returned (.bool (l.any p)) ∧ Below w.heap.size w w' := by
 have H := Aside0.mk (indexFunc_T26 g lb eg p A c l w hr hp)
 have HE := Aside0.mk (idxFrom_any p l 0 (Int.le_refl _))
 clear hr hp
 generalize idxFrom p 0 l = n at *
 generalize l.any p = b at *
 obtain rfl := HE.out
 clear HE
 go_enter Tryz.func49, Tryz.ntmps49
 go_wp2_with (go_at_call 59; refine H.out.mono ?_; rintro e w' ⟨rfl, hb⟩)
 go_ret
 exact ⟨rfl, hb⟩

end Go.Proofs.YtdblkmnbkpphjaaGreatDoor.P
