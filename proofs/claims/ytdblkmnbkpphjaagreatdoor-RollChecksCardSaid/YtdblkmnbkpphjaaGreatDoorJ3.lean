/- The functions that the law reaches: what each computes, and that its code computes it. -/
import Derived.Test.YtdblkmnbkpphjaaGreatDoorBP0
import Derived.Test.YtdblkmnbkpphjaaGreatDoorBAuto
import Derived.Test.YtdblkmnbkpphjaaGreatDoorBIdx
import Derived.Test.YtdblkmnbkpphjaaGreatDoorJ1
import Derived.Test.YtdblkmnbkpphjaaGreatDoorJ2
import Derived.Test.YtdblkmnbkpphjaaGreatDoorBBld
import Derived.Test.YtdblkmnbkpphjaaGreatDoorBGL
namespace Go.Proofs.YtdblkmnbkpphjaaGreatDoor.P
open Go.RowKit Go.Proofs.YtdblkmnbkpphjaaGreatDoorW.PrintWords Go.Proofs.YtdblkmnbkpphjaaGreatDoorW.PrintLast Go.Proofs.YtdblkmnbkpphjaaGreatDoorW.PrintMore Go.Proofs.YtdblkmnbkpphjaaGreatDoorW.PrintAuto
attribute [local go_sem] max2_int min2_int max_two min_two max_three min_three max_four min_four   -- for this text's walks alone
set_option linter.unusedVariables false
set_option linter.unusedSimpArgs false

--FLAGS making
--IMPORT Derived.Test.YtdblkmnbkpphjaaGreatDoorIdx
def sameRect (x y : S46) : Bool := x.f0 == y.f0 && x.f1 == y.f1 && x.f2 == y.f2 && x.f3 == y.f3
def sameRects : List S46 → List S46 → Bool
 | [], [] => true
 | x :: l, y :: m => sameRect x y && sameRects l m
 | _, _ => false
def sameRoll (x y : S26) : Bool := x.f0.toList == y.f0.toList && x.f1 == y.f1 && x.f2 == y.f2 && (x.f3.f0 == y.f3.f0 && x.f3.f1 == y.f3.f1 && x.f3.f2 == y.f3.f2) && x.f4.length == y.f4.length && sameRects x.f4 y.f4
def sameRolls : List S26 → List S26 → Bool
 | [], [] => true
 | x :: l, y :: m => sameRoll x y && sameRolls l m
 | _, _ => false
def garmentref27_Same.f (l0 : List S26) (l1 : List S26) : Option (Bool) := some (sameRolls l0 l1)
theorem below_set1 {B : Nat} {w W : World} {g j : Nat} {v : Value} (h : Below B w W) (hg : B ≤ g) : Below B w (W.setCell ⟨g, j, none⟩ v) := h.setCell hg _
theorem cell_fars (W : World) (g : Nat) (a : Addr) (V : Option Value) (h : a.block ≠ g) (hc : W.cell? a = V) (v0 v1 v2 v3 v4 v5 v6 : Value) :
  (((((((W.setCell ⟨g, 0, none⟩ v0).setCell ⟨g, 1, none⟩ v1).setCell ⟨g, 2, none⟩ v2).setCell ⟨g, 3, none⟩ v3).setCell ⟨g, 4, none⟩ v4).setCell ⟨g, 5, none⟩ v5).setCell ⟨g, 6, none⟩ v6).cell? a = V := by
 rw [cell_far (p := ⟨g, 6, none⟩) h, cell_far (p := ⟨g, 5, none⟩) h, cell_far (p := ⟨g, 4, none⟩) h, cell_far (p := ⟨g, 3, none⟩) h, cell_far (p := ⟨g, 2, none⟩) h, cell_far (p := ⟨g, 1, none⟩) h, cell_far (p := ⟨g, 0, none⟩) h]; exact hc
def regionAt (m : Nat) : Code → Option Code
 | .region q ops d => if q = m then some (.region q ops d) else none
 | .loop c => regionAt m c
 | .seq a b => match regionAt m a with
  | some c => some c
  | none => regionAt m b
 | .block _ c => regionAt m c
 | .scope c => regionAt m c
 | .cond _ a b => match regionAt m a with
  | some c => some c
  | none => regionAt m b
 | _ => none
noncomputable def fillCode : Code := ((Tryz.f21.body.bind (regionAt 6)).getD .skip)
set_option maxHeartbeats 1000000 in
set_option maxRecDepth 1000000 in
theorem same_fill (C : Code) (hC : C = fillCode) (l0 l1 : List S26) (x y : S26) (ad0 ad1 : Addr) (c0 c1 j : Nat) (Ax Ay : Option Addr) (kx ky : Nat) (w wr : World) (Q0 : Exit → Act → World → Prop) (t2 t3 t4 t6 t7 t8 t9 t10 t11 t12 t13 t14 t15 t16 t17 t18 t19 t20 t21 t22 t23 t24 t25 t26 t27 t28 t29 t30 t31 t32 t33 t34 t35 t36 t37 t38 t39 t40 t41 t42 t43 t44 t45 t46 t47 t48 t49 t50 t51 t52 t53 t54 t55 t56 t57 t58 t59 t60 t61 t62 t63 t64 t65 t66 t67 t68 t69 t70 t71 t72 t73 t74 t75 t76 t77 t78 t79 t80 : Value)
  (hj0 : (j : Int) < (l0.length : Int)) (hj1 : (j : Int) < (l1.length : Int)) (hjz : (0 : Int) ≤ (j : Int))
  (x0 : wr.cell? (ad0.add (j * 7)) = some (.string x.f0))
  (x1 : wr.cell? ⟨(ad0.add (j * 7)).block, (ad0.add (j * 7)).off + 1, none⟩ = some (.int .i64 x.f1))
  (x2 : wr.cell? ⟨(ad0.add (j * 7)).block, (ad0.add (j * 7)).off + 2, none⟩ = some (.int .i64 x.f2))
  (x3 : wr.cell? ⟨(ad0.add (j * 7)).block, (ad0.add (j * 7)).off + 3, none⟩ = some (.int .i64 x.f3.f0))
  (x4 : wr.cell? ⟨(ad0.add (j * 7)).block, (ad0.add (j * 7)).off + 4, none⟩ = some (.int .i64 x.f3.f1))
  (x5 : wr.cell? ⟨(ad0.add (j * 7)).block, (ad0.add (j * 7)).off + 5, none⟩ = some (.int .i64 x.f3.f2))
  (x6 : wr.cell? ⟨(ad0.add (j * 7)).block, (ad0.add (j * 7)).off + 6, none⟩ = some (.slice Ax x.f4.length kx))
  (y0 : wr.cell? (ad1.add (j * 7)) = some (.string y.f0))
  (y1 : wr.cell? ⟨(ad1.add (j * 7)).block, (ad1.add (j * 7)).off + 1, none⟩ = some (.int .i64 y.f1))
  (y2 : wr.cell? ⟨(ad1.add (j * 7)).block, (ad1.add (j * 7)).off + 2, none⟩ = some (.int .i64 y.f2))
  (y3 : wr.cell? ⟨(ad1.add (j * 7)).block, (ad1.add (j * 7)).off + 3, none⟩ = some (.int .i64 y.f3.f0))
  (y4 : wr.cell? ⟨(ad1.add (j * 7)).block, (ad1.add (j * 7)).off + 4, none⟩ = some (.int .i64 y.f3.f1))
  (y5 : wr.cell? ⟨(ad1.add (j * 7)).block, (ad1.add (j * 7)).off + 5, none⟩ = some (.int .i64 y.f3.f2))
  (y6 : wr.cell? ⟨(ad1.add (j * 7)).block, (ad1.add (j * 7)).off + 6, none⟩ = some (.slice Ay y.f4.length ky))
  (HB : Aside0 (Below w.heap.size w wr)) (hpan : Hid (∀ x a b W, b.defers = a.defers → Q0 (.panic x) a W → Q0 (.panic x) b W))
  (hK : Hid (∀ (g6 g7 : Nat) (w' : World) (u20 u21 u22 u23 u24 u25 u26 u27 : Value), w'.heap[g6]? = some (.cells #[.string x.f0, .int .i64 x.f1, .int .i64 x.f2, .int .i64 x.f3.f0, .int .i64 x.f3.f1, .int .i64 x.f3.f2, .slice Ax x.f4.length kx] 26 (0, 0)) → w'.heap[g7]? = some (.cells #[.string y.f0, .int .i64 y.f1, .int .i64 y.f2, .int .i64 y.f3.f0, .int .i64 y.f3.f1, .int .i64 y.f3.f2, .slice Ay y.f4.length ky] 26 (0, 0)) → wr.heap.size ≤ g6 → wr.heap.size ≤ g7 → g6 ≠ g7 → Below w.heap.size w w' → Below wr.heap.size wr w' → Q0 .normal ⟨(Value.slice (some ad0) l0.length c0 :: Value.slice (some ad1) l1.length c1 :: t2 :: t3 :: t4 :: Value.int .i64 (j : Int) :: Value.pointer (some ⟨g6, 0, none⟩) :: Value.pointer (some ⟨g7, 0, none⟩) :: t8 :: t9 :: t10 :: t11 :: t12 :: t13 :: t14 :: t15 :: t16 :: t17 :: t18 :: t19 :: u20 :: u21 :: u22 :: u23 :: u24 :: u25 :: u26 :: u27 :: t28 :: t29 :: t30 :: t31 :: t32 :: t33 :: t34 :: t35 :: t36 :: t37 :: t38 :: t39 :: t40 :: t41 :: t42 :: t43 :: t44 :: t45 :: t46 :: t47 :: t48 :: t49 :: t50 :: t51 :: t52 :: t53 :: t54 :: t55 :: t56 :: t57 :: t58 :: t59 :: t60 :: t61 :: t62 :: t63 :: t64 :: t65 :: t66 :: t67 :: t68 :: t69 :: t70 :: t71 :: t72 :: t73 :: t74 :: t75 :: t76 :: t77 :: t78 :: t79 :: t80 :: []).toArray, []⟩ w')) :
  Code.wp Tryz.prog C Q0 ⟨(Value.slice (some ad0) l0.length c0 :: Value.slice (some ad1) l1.length c1 :: t2 :: t3 :: t4 :: Value.int .i64 (j : Int) :: t6 :: t7 :: t8 :: t9 :: t10 :: t11 :: t12 :: t13 :: t14 :: t15 :: t16 :: t17 :: t18 :: t19 :: t20 :: t21 :: t22 :: t23 :: t24 :: t25 :: t26 :: t27 :: t28 :: t29 :: t30 :: t31 :: t32 :: t33 :: t34 :: t35 :: t36 :: t37 :: t38 :: t39 :: t40 :: t41 :: t42 :: t43 :: t44 :: t45 :: t46 :: t47 :: t48 :: t49 :: t50 :: t51 :: t52 :: t53 :: t54 :: t55 :: t56 :: t57 :: t58 :: t59 :: t60 :: t61 :: t62 :: t63 :: t64 :: t65 :: t66 :: t67 :: t68 :: t69 :: t70 :: t71 :: t72 :: t73 :: t74 :: t75 :: t76 :: t77 :: t78 :: t79 :: t80 :: []).toArray, []⟩ wr := by
 subst hC
 conv => arg 2; whnf
 have hzz : w.heap.size ≤ wr.heap.size := HB.out.size
 go_wp2_with fail
 replace HB := Aside0.mk (below_drew1 HB.out); refine start_ (n := 12) (S := fun w' => w'.cell? (ad0.add (j * 7)) = some (.string x.f0) ∧ w'.cell? ⟨(ad0.add (j * 7)).block, (ad0.add (j * 7)).off + 1, none⟩ = some (.int .i64 x.f1) ∧ w'.cell? ⟨(ad0.add (j * 7)).block, (ad0.add (j * 7)).off + 2, none⟩ = some (.int .i64 x.f2) ∧ w'.cell? ⟨(ad0.add (j * 7)).block, (ad0.add (j * 7)).off + 3, none⟩ = some (.int .i64 x.f3.f0) ∧ w'.cell? ⟨(ad0.add (j * 7)).block, (ad0.add (j * 7)).off + 4, none⟩ = some (.int .i64 x.f3.f1) ∧ w'.cell? ⟨(ad0.add (j * 7)).block, (ad0.add (j * 7)).off + 5, none⟩ = some (.int .i64 x.f3.f2) ∧ w'.cell? ⟨(ad0.add (j * 7)).block, (ad0.add (j * 7)).off + 6, none⟩ = some (.slice Ax x.f4.length kx) ∧ w'.cell? (ad1.add (j * 7)) = some (.string y.f0) ∧ w'.cell? ⟨(ad1.add (j * 7)).block, (ad1.add (j * 7)).off + 1, none⟩ = some (.int .i64 y.f1) ∧ w'.cell? ⟨(ad1.add (j * 7)).block, (ad1.add (j * 7)).off + 2, none⟩ = some (.int .i64 y.f2) ∧ w'.cell? ⟨(ad1.add (j * 7)).block, (ad1.add (j * 7)).off + 3, none⟩ = some (.int .i64 y.f3.f0) ∧ w'.cell? ⟨(ad1.add (j * 7)).block, (ad1.add (j * 7)).off + 4, none⟩ = some (.int .i64 y.f3.f1) ∧ w'.cell? ⟨(ad1.add (j * 7)).block, (ad1.add (j * 7)).off + 5, none⟩ = some (.int .i64 y.f3.f2) ∧ w'.cell? ⟨(ad1.add (j * 7)).block, (ad1.add (j * 7)).off + 6, none⟩ = some (.slice Ay y.f4.length ky)) (ds := []) #[false, false, false, false, false, false, false, false, false, false, false, false] (by kernel_rfl) rfl rfl ⟨x0, x1, x2, x3, x4, x5, x6, y0, y1, y2, y3, y4, y5, y6⟩ (fun hHeld => ?_); generalize hw4 : wr.drew = w4 at x0 x1 x2 x3 x4 x5 x6 y0 y1 y2 y3 y4 y5 y6 HB hHeld ⊢; refine pure_ (i := 0) (N := some 20) (v := ?_) (a' := ?_) #[true, false, false, false, false, false, false, false, false, false, false, false] rfl rfl (by kernel_rfl) (fun _ _ _ h => hpan.out _ _ _ _ (by rfl) h) (Or.inl ⟨by rfl, ?_⟩) ?_ ?_
 rotate_left
 ·intro w'
  go_simp
  with_reducible rfl
 rotate_left
 ·simp only [Act.put, List.setIfInBounds_toArray, List.set_cons_zero, List.set_cons_succ, i64_w, i32_w]
  rfl
 refine pure_ (i := 1) (N := some 21) (v := ?_) (a' := ?_) #[true, true, false, false, false, false, false, false, false, false, false, false] rfl rfl (by kernel_rfl) (fun _ _ _ h => hpan.out _ _ _ _ (by rfl) h) (Or.inl ⟨by rfl, ?_⟩) ?_ ?_
 rotate_left
 ·intro w'
  go_simp
  with_reducible rfl
 rotate_left
 ·simp only [Act.put, List.setIfInBounds_toArray, List.set_cons_zero, List.set_cons_succ, i64_w, i32_w]
  rfl
 refine pure_ (i := 2) (N := some 22) (v := ?_) (a' := ?_) #[true, true, true, false, false, false, false, false, false, false, false, false] rfl rfl (by kernel_rfl) (fun _ _ _ h => hpan.out _ _ _ _ (by rfl) h) (Or.inl ⟨by rfl, ?_⟩) ?_ ?_
 rotate_left
 ·intro w'
  go_simp
  with_reducible rfl
 rotate_left
 ·simp only [Act.put, List.setIfInBounds_toArray, List.set_cons_zero, List.set_cons_succ, i64_w, i32_w]
  rfl
 refine pure_ (i := 4) (N := some 24) (v := ?_) (a' := ?_) #[true, true, true, false, true, false, false, false, false, false, false, false] rfl rfl (by kernel_rfl) (fun _ _ _ h => hpan.out _ _ _ _ (by rfl) h) (Or.inl ⟨by rfl, ?_⟩) ?_ ?_
 rotate_left
 ·intro w'
  go_simp
  with_reducible rfl
 rotate_left
 ·simp only [Act.put, List.setIfInBounds_toArray, List.set_cons_zero, List.set_cons_succ, i64_w, i32_w]
  rfl
 refine pure_ (i := 5) (N := some 25) (v := ?_) (a' := ?_) #[true, true, true, false, true, true, false, false, false, false, false, false] rfl rfl (by kernel_rfl) (fun _ _ _ h => hpan.out _ _ _ _ (by rfl) h) (Or.inl ⟨by rfl, ?_⟩) ?_ ?_
 rotate_left
 ·intro w'
  go_simp
  with_reducible rfl
 rotate_left
 ·simp only [Act.put, List.setIfInBounds_toArray, List.set_cons_zero, List.set_cons_succ, i64_w, i32_w]
  rfl
 refine pure_ (i := 6) (N := some 26) (v := ?_) (a' := ?_) #[true, true, true, false, true, true, true, false, false, false, false, false] rfl rfl (by kernel_rfl) (fun _ _ _ h => hpan.out _ _ _ _ (by rfl) h) (Or.inl ⟨by rfl, ?_⟩) ?_ ?_
 rotate_left
 ·intro w'
  go_simp
  with_reducible rfl
 rotate_left
 ·simp only [Act.put, List.setIfInBounds_toArray, List.set_cons_zero, List.set_cons_succ, i64_w, i32_w]
  rfl
 refine take_ (i := 3) (N := some 23) (v := ?_) (a' := ?_) #[true, true, true, true, true, true, true, false, false, false, false, false] rfl rfl (by kernel_rfl) (fun _ _ _ h => hpan.out _ _ _ _ (by rfl) h) (Or.inl ⟨by rfl, ?_⟩) hHeld ?_ ?_
 rotate_left
 ·rintro w' ⟨s0, s1, s2, s3, s4, s5, s6, s7, s8, s9, s10, s11, s12, s13⟩
  go_simp
  with_reducible rfl
 rotate_left
 ·simp only [Act.put, List.setIfInBounds_toArray, List.set_cons_zero, List.set_cons_succ, i64_w, i32_w]
  rfl
 refine take_ (i := 7) (N := some 27) (v := ?_) (a' := ?_) #[true, true, true, true, true, true, true, true, false, false, false, false] rfl rfl (by kernel_rfl) (fun _ _ _ h => hpan.out _ _ _ _ (by rfl) h) (Or.inl ⟨by rfl, ?_⟩) hHeld ?_ ?_
 rotate_left
 ·rintro w' ⟨s0, s1, s2, s3, s4, s5, s6, s7, s8, s9, s10, s11, s12, s13⟩
  go_simp
  with_reducible rfl
 rotate_left
 ·simp only [Act.put, List.setIfInBounds_toArray, List.set_cons_zero, List.set_cons_succ, i64_w, i32_w]
  rfl
 refine join_ (σ := Nat × Nat) 2 #[true, true, true, true, true, true, true, true, true, true, false, false] ((fun s_ => [(6, .pointer (some ⟨s_.1, 0, none⟩)), (7, .pointer (some ⟨s_.2, 0, none⟩))])) ((fun s_ w' => (w'.cell? (ad0.add (j * 7)) = some (.string x.f0) ∧ w'.cell? ⟨(ad0.add (j * 7)).block, (ad0.add (j * 7)).off + 1, none⟩ = some (.int .i64 x.f1) ∧ w'.cell? ⟨(ad0.add (j * 7)).block, (ad0.add (j * 7)).off + 2, none⟩ = some (.int .i64 x.f2) ∧ w'.cell? ⟨(ad0.add (j * 7)).block, (ad0.add (j * 7)).off + 3, none⟩ = some (.int .i64 x.f3.f0) ∧ w'.cell? ⟨(ad0.add (j * 7)).block, (ad0.add (j * 7)).off + 4, none⟩ = some (.int .i64 x.f3.f1) ∧ w'.cell? ⟨(ad0.add (j * 7)).block, (ad0.add (j * 7)).off + 5, none⟩ = some (.int .i64 x.f3.f2) ∧ w'.cell? ⟨(ad0.add (j * 7)).block, (ad0.add (j * 7)).off + 6, none⟩ = some (.slice Ax x.f4.length kx) ∧ w'.cell? (ad1.add (j * 7)) = some (.string y.f0) ∧ w'.cell? ⟨(ad1.add (j * 7)).block, (ad1.add (j * 7)).off + 1, none⟩ = some (.int .i64 y.f1) ∧ w'.cell? ⟨(ad1.add (j * 7)).block, (ad1.add (j * 7)).off + 2, none⟩ = some (.int .i64 y.f2) ∧ w'.cell? ⟨(ad1.add (j * 7)).block, (ad1.add (j * 7)).off + 3, none⟩ = some (.int .i64 y.f3.f0) ∧ w'.cell? ⟨(ad1.add (j * 7)).block, (ad1.add (j * 7)).off + 4, none⟩ = some (.int .i64 y.f3.f1) ∧ w'.cell? ⟨(ad1.add (j * 7)).block, (ad1.add (j * 7)).off + 5, none⟩ = some (.int .i64 y.f3.f2) ∧ w'.cell? ⟨(ad1.add (j * 7)).block, (ad1.add (j * 7)).off + 6, none⟩ = some (.slice Ay y.f4.length ky)) ∧ w'.heap[s_.1]? = some (.cells #[.string ⟨#[]⟩, .int .i64 0, .int .i64 0, .int .i64 0, .int .i64 0, .int .i64 0, .slice none 0 0] 26 (0, 0)) ∧ w'.heap[s_.2]? = some (.cells #[.string ⟨#[]⟩, .int .i64 0, .int .i64 0, .int .i64 0, .int .i64 0, .int .i64 0, .slice none 0 0] 26 (0, 0)) ∧ s_.1 ≠ s_.2 ∧ w4.heap.size ≤ s_.1 ∧ w4.heap.size ≤ s_.2 ∧ Below w4.heap.size w4 w')) ?_ ?_
 rotate_left
 ·intro hCont
  refine two_ (i := 8) (j := 9) (Ni := some 6) (Nj := some 7) #[true, true, true, true, true, true, true, true, true, false, false, false] #[true, true, true, true, true, true, true, true, false, true, false, false] rfl rfl rfl rfl (by kernel_rfl) (by decide) (by decide) (fun K hK => ?_) (fun K hK => ?_)
  ·skip
   refine box_step ?hg (N := 6) ?hd (cs := #[.string ⟨#[]⟩, .int .i64 0, .int .i64 0, .int .i64 0, .int .i64 0, .int .i64 0, .slice none 0 0]) (t := 26) ?hr ?_
   (case hd => rfl)
   (case hg => rfl)
   (case hr => first | (go_simp; done) | (go_simp; rfl))
   intro g6 hgg6 wg6 hboxg6 hbg6; have HDg6 : Below w4.heap.size w4 wg6 := hbg6; have hzg6 : w4.heap.size ≤ g6 := Nat.le_of_eq hgg6.symm; have hlg6 : g6 < wg6.heap.size := blk_lt hboxg6; clear hgg6; refine hK.out _ _ ⟨pw_cell_below hbg6 (hHeld.1), pw_cell_below hbg6 (hHeld.2.1), pw_cell_below hbg6 (hHeld.2.2.1), pw_cell_below hbg6 (hHeld.2.2.2.1), pw_cell_below hbg6 (hHeld.2.2.2.2.1), pw_cell_below hbg6 (hHeld.2.2.2.2.2.1), pw_cell_below hbg6 (hHeld.2.2.2.2.2.2.1), pw_cell_below hbg6 (hHeld.2.2.2.2.2.2.2.1), pw_cell_below hbg6 (hHeld.2.2.2.2.2.2.2.2.1), pw_cell_below hbg6 (hHeld.2.2.2.2.2.2.2.2.2.1), pw_cell_below hbg6 (hHeld.2.2.2.2.2.2.2.2.2.2.1), pw_cell_below hbg6 (hHeld.2.2.2.2.2.2.2.2.2.2.2.1), pw_cell_below hbg6 (hHeld.2.2.2.2.2.2.2.2.2.2.2.2.1), pw_cell_below hbg6 (hHeld.2.2.2.2.2.2.2.2.2.2.2.2.2)⟩ (fun hHeld => ?_); clear hK K; refine norm_ (a' := ?_) ?_ ?_
   rotate_left
   ·show Act.put _ (some 6) _ = _
    simp only [Act.put, List.setIfInBounds_toArray, List.set_cons_zero, List.set_cons_succ, i64_w, i32_w]
    rfl
   refine one_ (i := 9) (N := some 7) #[true, true, true, true, true, true, true, true, true, true, false, false] rfl rfl (by kernel_rfl) (by decide) (fun K hK => ?_); refine box_step ?hg (N := 7) ?hd (cs := #[.string ⟨#[]⟩, .int .i64 0, .int .i64 0, .int .i64 0, .int .i64 0, .int .i64 0, .slice none 0 0]) (t := 26) ?hr ?_
   (case hd => rfl)
   (case hg => rfl)
   (case hr => first | (go_simp; done) | (go_simp; rfl))
   intro g7 hgg7 wg7 hboxg7 hbg7; have HDg7 := below_step HDg6 hbg7
   have hzg7 : w4.heap.size ≤ g7 := by rw [hgg7]; exact HDg6.size
   have hneg7 : g6 ≠ g7 := by rw [hgg7]; exact Nat.ne_of_lt hlg6
   have hboxg6 := blk_below hboxg6 hbg7; clear hgg7; refine hK.out _ _ ⟨pw_cell_below hbg7 (hHeld.1), pw_cell_below hbg7 (hHeld.2.1), pw_cell_below hbg7 (hHeld.2.2.1), pw_cell_below hbg7 (hHeld.2.2.2.1), pw_cell_below hbg7 (hHeld.2.2.2.2.1), pw_cell_below hbg7 (hHeld.2.2.2.2.2.1), pw_cell_below hbg7 (hHeld.2.2.2.2.2.2.1), pw_cell_below hbg7 (hHeld.2.2.2.2.2.2.2.1), pw_cell_below hbg7 (hHeld.2.2.2.2.2.2.2.2.1), pw_cell_below hbg7 (hHeld.2.2.2.2.2.2.2.2.2.1), pw_cell_below hbg7 (hHeld.2.2.2.2.2.2.2.2.2.2.1), pw_cell_below hbg7 (hHeld.2.2.2.2.2.2.2.2.2.2.2.1), pw_cell_below hbg7 (hHeld.2.2.2.2.2.2.2.2.2.2.2.2.1), pw_cell_below hbg7 (hHeld.2.2.2.2.2.2.2.2.2.2.2.2.2)⟩ (fun hHeld => ?_); clear hK K; refine norm_ (a' := ?_) ?_ ?_
   rotate_left
   ·show Act.put _ (some 7) _ = _
    simp only [Act.put, List.setIfInBounds_toArray, List.set_cons_zero, List.set_cons_succ, i64_w, i32_w]
    rfl
   exact norm_ (by simp only [putAll, Act.put, List.setIfInBounds_toArray, List.set_cons_zero, List.set_cons_succ]) (hCont (g6, g7) _ ⟨hHeld, hboxg6, hboxg7, hneg7, hzg6, hzg7, HDg7⟩)
  ·skip
   refine box_step ?hg (N := 7) ?hd (cs := #[.string ⟨#[]⟩, .int .i64 0, .int .i64 0, .int .i64 0, .int .i64 0, .int .i64 0, .slice none 0 0]) (t := 26) ?hr ?_
   (case hd => rfl)
   (case hg => rfl)
   (case hr => first | (go_simp; done) | (go_simp; rfl))
   intro g7 hgg7 wg7 hboxg7 hbg7; have HDg7 : Below w4.heap.size w4 wg7 := hbg7; have hzg7 : w4.heap.size ≤ g7 := Nat.le_of_eq hgg7.symm; have hlg7 : g7 < wg7.heap.size := blk_lt hboxg7; clear hgg7; refine hK.out _ _ ⟨pw_cell_below hbg7 (hHeld.1), pw_cell_below hbg7 (hHeld.2.1), pw_cell_below hbg7 (hHeld.2.2.1), pw_cell_below hbg7 (hHeld.2.2.2.1), pw_cell_below hbg7 (hHeld.2.2.2.2.1), pw_cell_below hbg7 (hHeld.2.2.2.2.2.1), pw_cell_below hbg7 (hHeld.2.2.2.2.2.2.1), pw_cell_below hbg7 (hHeld.2.2.2.2.2.2.2.1), pw_cell_below hbg7 (hHeld.2.2.2.2.2.2.2.2.1), pw_cell_below hbg7 (hHeld.2.2.2.2.2.2.2.2.2.1), pw_cell_below hbg7 (hHeld.2.2.2.2.2.2.2.2.2.2.1), pw_cell_below hbg7 (hHeld.2.2.2.2.2.2.2.2.2.2.2.1), pw_cell_below hbg7 (hHeld.2.2.2.2.2.2.2.2.2.2.2.2.1), pw_cell_below hbg7 (hHeld.2.2.2.2.2.2.2.2.2.2.2.2.2)⟩ (fun hHeld => ?_); clear hK K; refine norm_ (a' := ?_) ?_ ?_
   rotate_left
   ·show Act.put _ (some 7) _ = _
    simp only [Act.put, List.setIfInBounds_toArray, List.set_cons_zero, List.set_cons_succ, i64_w, i32_w]
    rfl
   refine one_ (i := 8) (N := some 6) #[true, true, true, true, true, true, true, true, true, true, false, false] rfl rfl (by kernel_rfl) (by decide) (fun K hK => ?_); refine box_step ?hg (N := 6) ?hd (cs := #[.string ⟨#[]⟩, .int .i64 0, .int .i64 0, .int .i64 0, .int .i64 0, .int .i64 0, .slice none 0 0]) (t := 26) ?hr ?_
   (case hd => rfl)
   (case hg => rfl)
   (case hr => first | (go_simp; done) | (go_simp; rfl))
   intro g6 hgg6 wg6 hboxg6 hbg6; have HDg6 := below_step HDg7 hbg6
   have hzg6 : w4.heap.size ≤ g6 := by rw [hgg6]; exact HDg7.size
   have hneg6 : g7 ≠ g6 := by rw [hgg6]; exact Nat.ne_of_lt hlg7
   have hboxg7 := blk_below hboxg7 hbg6; clear hgg6; refine hK.out _ _ ⟨pw_cell_below hbg6 (hHeld.1), pw_cell_below hbg6 (hHeld.2.1), pw_cell_below hbg6 (hHeld.2.2.1), pw_cell_below hbg6 (hHeld.2.2.2.1), pw_cell_below hbg6 (hHeld.2.2.2.2.1), pw_cell_below hbg6 (hHeld.2.2.2.2.2.1), pw_cell_below hbg6 (hHeld.2.2.2.2.2.2.1), pw_cell_below hbg6 (hHeld.2.2.2.2.2.2.2.1), pw_cell_below hbg6 (hHeld.2.2.2.2.2.2.2.2.1), pw_cell_below hbg6 (hHeld.2.2.2.2.2.2.2.2.2.1), pw_cell_below hbg6 (hHeld.2.2.2.2.2.2.2.2.2.2.1), pw_cell_below hbg6 (hHeld.2.2.2.2.2.2.2.2.2.2.2.1), pw_cell_below hbg6 (hHeld.2.2.2.2.2.2.2.2.2.2.2.2.1), pw_cell_below hbg6 (hHeld.2.2.2.2.2.2.2.2.2.2.2.2.2)⟩ (fun hHeld => ?_); clear hK K; refine norm_ (a' := ?_) ?_ ?_
   rotate_left
   ·show Act.put _ (some 6) _ = _
    simp only [Act.put, List.setIfInBounds_toArray, List.set_cons_zero, List.set_cons_succ, i64_w, i32_w]
    rfl
   exact norm_ (by simp only [putAll, Act.put, List.setIfInBounds_toArray, List.set_cons_zero, List.set_cons_succ]) (hCont (g6, g7) _ ⟨hHeld, hboxg6, hboxg7, hneg6.symm, hzg6, hzg7, HDg6⟩)
 rintro ⟨g6, g7⟩ w11 ⟨hHeld, B6, B7, hne, hz6, hz7, HD⟩
 have HX := Lib.hid hHeld; clear hHeld; refine norm_ (a' := ?_) ?_ ?_
 rotate_left
 ·simp only [putAll, Act.put, List.setIfInBounds_toArray, List.set_cons_zero, List.set_cons_succ]
  rfl
 refine one_ (i := 10) (N := none) #[true, true, true, true, true, true, true, true, true, true, true, false] rfl rfl (by kernel_rfl) (by decide) (fun K hK => ?_)
 have hsz4 : w4.heap.size = wr.heap.size := by rw [← hw4]; rfl
 have hn6_0 : (ad0.add (j * 7)).block ≠ g6 := by have := World.block_lt_of_cell? _ _ x0; omega
 have hn6_1 : (ad1.add (j * 7)).block ≠ g6 := by have := World.block_lt_of_cell? _ _ y0; omega
 have hn7_0 : (ad0.add (j * 7)).block ≠ g7 := by have := World.block_lt_of_cell? _ _ x0; omega
 have hn7_1 : (ad1.add (j * 7)).block ≠ g7 := by have := World.block_lt_of_cell? _ _ y0; omega
 clear x0 x1 x2 x3 x4 x5 x6 y0 y1 y2 y3 y4 y5 y6; have A6 := Aside0.mk B6; have A7 := Aside0.mk B7; have AD := Aside0.mk HD; have c0 := bc B6 0 (.string ⟨#[]⟩) rfl; have c1 := bc B6 1 (.int .i64 0) rfl; have c2 := bc B6 2 (.int .i64 0) rfl; have c3 := bc B6 3 (.int .i64 0) rfl; have c4 := bc B6 4 (.int .i64 0) rfl; have c5 := bc B6 5 (.int .i64 0) rfl; have c6 := bc B6 6 (.slice none 0 0) rfl; have f0 := blk_frozen B6 0; have f1 := blk_frozen B6 1; have f2 := blk_frozen B6 2; have f3 := blk_frozen B6 3; have f4 := blk_frozen B6 4; have f5 := blk_frozen B6 5; have f6 := blk_frozen B6 6; clear B6 B7 HD; refine skip_ (w1 := ?_) (by rfl) rfl ?_ ?_
 rotate_left
 ·go_simp
  rfl
 have HS_0 : (((((((w11.setCell ⟨g6, 0, none⟩ (.string x.f0)).setCell ⟨g6, 1, none⟩ (.int .i64 x.f1)).setCell ⟨g6, 2, none⟩ (.int .i64 x.f2)).setCell ⟨g6, 3, none⟩ (.int .i64 x.f3.f0)).setCell ⟨g6, 4, none⟩ (.int .i64 x.f3.f1)).setCell ⟨g6, 5, none⟩ (.int .i64 x.f3.f2)).setCell ⟨g6, 6, none⟩ (.slice Ax x.f4.length kx)).cell? (ad0.add (j * 7)) = some (.string x.f0) := cell_fars w11 g6 (ad0.add (j * 7)) (some (.string x.f0)) hn6_0 (HX.out.1) (.string x.f0) (.int .i64 x.f1) (.int .i64 x.f2) (.int .i64 x.f3.f0) (.int .i64 x.f3.f1) (.int .i64 x.f3.f2) (.slice Ax x.f4.length kx); have HS_1 : (((((((w11.setCell ⟨g6, 0, none⟩ (.string x.f0)).setCell ⟨g6, 1, none⟩ (.int .i64 x.f1)).setCell ⟨g6, 2, none⟩ (.int .i64 x.f2)).setCell ⟨g6, 3, none⟩ (.int .i64 x.f3.f0)).setCell ⟨g6, 4, none⟩ (.int .i64 x.f3.f1)).setCell ⟨g6, 5, none⟩ (.int .i64 x.f3.f2)).setCell ⟨g6, 6, none⟩ (.slice Ax x.f4.length kx)).cell? ⟨(ad0.add (j * 7)).block, (ad0.add (j * 7)).off + 1, none⟩ = some (.int .i64 x.f1) := cell_fars w11 g6 ⟨(ad0.add (j * 7)).block, (ad0.add (j * 7)).off + 1, none⟩ (some (.int .i64 x.f1)) hn6_0 (HX.out.2.1) (.string x.f0) (.int .i64 x.f1) (.int .i64 x.f2) (.int .i64 x.f3.f0) (.int .i64 x.f3.f1) (.int .i64 x.f3.f2) (.slice Ax x.f4.length kx); have HS_2 : (((((((w11.setCell ⟨g6, 0, none⟩ (.string x.f0)).setCell ⟨g6, 1, none⟩ (.int .i64 x.f1)).setCell ⟨g6, 2, none⟩ (.int .i64 x.f2)).setCell ⟨g6, 3, none⟩ (.int .i64 x.f3.f0)).setCell ⟨g6, 4, none⟩ (.int .i64 x.f3.f1)).setCell ⟨g6, 5, none⟩ (.int .i64 x.f3.f2)).setCell ⟨g6, 6, none⟩ (.slice Ax x.f4.length kx)).cell? ⟨(ad0.add (j * 7)).block, (ad0.add (j * 7)).off + 2, none⟩ = some (.int .i64 x.f2) := cell_fars w11 g6 ⟨(ad0.add (j * 7)).block, (ad0.add (j * 7)).off + 2, none⟩ (some (.int .i64 x.f2)) hn6_0 (HX.out.2.2.1) (.string x.f0) (.int .i64 x.f1) (.int .i64 x.f2) (.int .i64 x.f3.f0) (.int .i64 x.f3.f1) (.int .i64 x.f3.f2) (.slice Ax x.f4.length kx); have HS_3 : (((((((w11.setCell ⟨g6, 0, none⟩ (.string x.f0)).setCell ⟨g6, 1, none⟩ (.int .i64 x.f1)).setCell ⟨g6, 2, none⟩ (.int .i64 x.f2)).setCell ⟨g6, 3, none⟩ (.int .i64 x.f3.f0)).setCell ⟨g6, 4, none⟩ (.int .i64 x.f3.f1)).setCell ⟨g6, 5, none⟩ (.int .i64 x.f3.f2)).setCell ⟨g6, 6, none⟩ (.slice Ax x.f4.length kx)).cell? ⟨(ad0.add (j * 7)).block, (ad0.add (j * 7)).off + 3, none⟩ = some (.int .i64 x.f3.f0) := cell_fars w11 g6 ⟨(ad0.add (j * 7)).block, (ad0.add (j * 7)).off + 3, none⟩ (some (.int .i64 x.f3.f0)) hn6_0 (HX.out.2.2.2.1) (.string x.f0) (.int .i64 x.f1) (.int .i64 x.f2) (.int .i64 x.f3.f0) (.int .i64 x.f3.f1) (.int .i64 x.f3.f2) (.slice Ax x.f4.length kx); have HS_4 : (((((((w11.setCell ⟨g6, 0, none⟩ (.string x.f0)).setCell ⟨g6, 1, none⟩ (.int .i64 x.f1)).setCell ⟨g6, 2, none⟩ (.int .i64 x.f2)).setCell ⟨g6, 3, none⟩ (.int .i64 x.f3.f0)).setCell ⟨g6, 4, none⟩ (.int .i64 x.f3.f1)).setCell ⟨g6, 5, none⟩ (.int .i64 x.f3.f2)).setCell ⟨g6, 6, none⟩ (.slice Ax x.f4.length kx)).cell? ⟨(ad0.add (j * 7)).block, (ad0.add (j * 7)).off + 4, none⟩ = some (.int .i64 x.f3.f1) := cell_fars w11 g6 ⟨(ad0.add (j * 7)).block, (ad0.add (j * 7)).off + 4, none⟩ (some (.int .i64 x.f3.f1)) hn6_0 (HX.out.2.2.2.2.1) (.string x.f0) (.int .i64 x.f1) (.int .i64 x.f2) (.int .i64 x.f3.f0) (.int .i64 x.f3.f1) (.int .i64 x.f3.f2) (.slice Ax x.f4.length kx); have HS_5 : (((((((w11.setCell ⟨g6, 0, none⟩ (.string x.f0)).setCell ⟨g6, 1, none⟩ (.int .i64 x.f1)).setCell ⟨g6, 2, none⟩ (.int .i64 x.f2)).setCell ⟨g6, 3, none⟩ (.int .i64 x.f3.f0)).setCell ⟨g6, 4, none⟩ (.int .i64 x.f3.f1)).setCell ⟨g6, 5, none⟩ (.int .i64 x.f3.f2)).setCell ⟨g6, 6, none⟩ (.slice Ax x.f4.length kx)).cell? ⟨(ad0.add (j * 7)).block, (ad0.add (j * 7)).off + 5, none⟩ = some (.int .i64 x.f3.f2) := cell_fars w11 g6 ⟨(ad0.add (j * 7)).block, (ad0.add (j * 7)).off + 5, none⟩ (some (.int .i64 x.f3.f2)) hn6_0 (HX.out.2.2.2.2.2.1) (.string x.f0) (.int .i64 x.f1) (.int .i64 x.f2) (.int .i64 x.f3.f0) (.int .i64 x.f3.f1) (.int .i64 x.f3.f2) (.slice Ax x.f4.length kx); have HS_6 : (((((((w11.setCell ⟨g6, 0, none⟩ (.string x.f0)).setCell ⟨g6, 1, none⟩ (.int .i64 x.f1)).setCell ⟨g6, 2, none⟩ (.int .i64 x.f2)).setCell ⟨g6, 3, none⟩ (.int .i64 x.f3.f0)).setCell ⟨g6, 4, none⟩ (.int .i64 x.f3.f1)).setCell ⟨g6, 5, none⟩ (.int .i64 x.f3.f2)).setCell ⟨g6, 6, none⟩ (.slice Ax x.f4.length kx)).cell? ⟨(ad0.add (j * 7)).block, (ad0.add (j * 7)).off + 6, none⟩ = some (.slice Ax x.f4.length kx) := cell_fars w11 g6 ⟨(ad0.add (j * 7)).block, (ad0.add (j * 7)).off + 6, none⟩ (some (.slice Ax x.f4.length kx)) hn6_0 (HX.out.2.2.2.2.2.2.1) (.string x.f0) (.int .i64 x.f1) (.int .i64 x.f2) (.int .i64 x.f3.f0) (.int .i64 x.f3.f1) (.int .i64 x.f3.f2) (.slice Ax x.f4.length kx)
 have HS_7 : (((((((w11.setCell ⟨g6, 0, none⟩ (.string x.f0)).setCell ⟨g6, 1, none⟩ (.int .i64 x.f1)).setCell ⟨g6, 2, none⟩ (.int .i64 x.f2)).setCell ⟨g6, 3, none⟩ (.int .i64 x.f3.f0)).setCell ⟨g6, 4, none⟩ (.int .i64 x.f3.f1)).setCell ⟨g6, 5, none⟩ (.int .i64 x.f3.f2)).setCell ⟨g6, 6, none⟩ (.slice Ax x.f4.length kx)).cell? (ad1.add (j * 7)) = some (.string y.f0) := cell_fars w11 g6 (ad1.add (j * 7)) (some (.string y.f0)) hn6_1 (HX.out.2.2.2.2.2.2.2.1) (.string x.f0) (.int .i64 x.f1) (.int .i64 x.f2) (.int .i64 x.f3.f0) (.int .i64 x.f3.f1) (.int .i64 x.f3.f2) (.slice Ax x.f4.length kx); have HS_8 : (((((((w11.setCell ⟨g6, 0, none⟩ (.string x.f0)).setCell ⟨g6, 1, none⟩ (.int .i64 x.f1)).setCell ⟨g6, 2, none⟩ (.int .i64 x.f2)).setCell ⟨g6, 3, none⟩ (.int .i64 x.f3.f0)).setCell ⟨g6, 4, none⟩ (.int .i64 x.f3.f1)).setCell ⟨g6, 5, none⟩ (.int .i64 x.f3.f2)).setCell ⟨g6, 6, none⟩ (.slice Ax x.f4.length kx)).cell? ⟨(ad1.add (j * 7)).block, (ad1.add (j * 7)).off + 1, none⟩ = some (.int .i64 y.f1) := cell_fars w11 g6 ⟨(ad1.add (j * 7)).block, (ad1.add (j * 7)).off + 1, none⟩ (some (.int .i64 y.f1)) hn6_1 (HX.out.2.2.2.2.2.2.2.2.1) (.string x.f0) (.int .i64 x.f1) (.int .i64 x.f2) (.int .i64 x.f3.f0) (.int .i64 x.f3.f1) (.int .i64 x.f3.f2) (.slice Ax x.f4.length kx); have HS_9 : (((((((w11.setCell ⟨g6, 0, none⟩ (.string x.f0)).setCell ⟨g6, 1, none⟩ (.int .i64 x.f1)).setCell ⟨g6, 2, none⟩ (.int .i64 x.f2)).setCell ⟨g6, 3, none⟩ (.int .i64 x.f3.f0)).setCell ⟨g6, 4, none⟩ (.int .i64 x.f3.f1)).setCell ⟨g6, 5, none⟩ (.int .i64 x.f3.f2)).setCell ⟨g6, 6, none⟩ (.slice Ax x.f4.length kx)).cell? ⟨(ad1.add (j * 7)).block, (ad1.add (j * 7)).off + 2, none⟩ = some (.int .i64 y.f2) := cell_fars w11 g6 ⟨(ad1.add (j * 7)).block, (ad1.add (j * 7)).off + 2, none⟩ (some (.int .i64 y.f2)) hn6_1 (HX.out.2.2.2.2.2.2.2.2.2.1) (.string x.f0) (.int .i64 x.f1) (.int .i64 x.f2) (.int .i64 x.f3.f0) (.int .i64 x.f3.f1) (.int .i64 x.f3.f2) (.slice Ax x.f4.length kx); have HS_10 : (((((((w11.setCell ⟨g6, 0, none⟩ (.string x.f0)).setCell ⟨g6, 1, none⟩ (.int .i64 x.f1)).setCell ⟨g6, 2, none⟩ (.int .i64 x.f2)).setCell ⟨g6, 3, none⟩ (.int .i64 x.f3.f0)).setCell ⟨g6, 4, none⟩ (.int .i64 x.f3.f1)).setCell ⟨g6, 5, none⟩ (.int .i64 x.f3.f2)).setCell ⟨g6, 6, none⟩ (.slice Ax x.f4.length kx)).cell? ⟨(ad1.add (j * 7)).block, (ad1.add (j * 7)).off + 3, none⟩ = some (.int .i64 y.f3.f0) := cell_fars w11 g6 ⟨(ad1.add (j * 7)).block, (ad1.add (j * 7)).off + 3, none⟩ (some (.int .i64 y.f3.f0)) hn6_1 (HX.out.2.2.2.2.2.2.2.2.2.2.1) (.string x.f0) (.int .i64 x.f1) (.int .i64 x.f2) (.int .i64 x.f3.f0) (.int .i64 x.f3.f1) (.int .i64 x.f3.f2) (.slice Ax x.f4.length kx); have HS_11 : (((((((w11.setCell ⟨g6, 0, none⟩ (.string x.f0)).setCell ⟨g6, 1, none⟩ (.int .i64 x.f1)).setCell ⟨g6, 2, none⟩ (.int .i64 x.f2)).setCell ⟨g6, 3, none⟩ (.int .i64 x.f3.f0)).setCell ⟨g6, 4, none⟩ (.int .i64 x.f3.f1)).setCell ⟨g6, 5, none⟩ (.int .i64 x.f3.f2)).setCell ⟨g6, 6, none⟩ (.slice Ax x.f4.length kx)).cell? ⟨(ad1.add (j * 7)).block, (ad1.add (j * 7)).off + 4, none⟩ = some (.int .i64 y.f3.f1) := cell_fars w11 g6 ⟨(ad1.add (j * 7)).block, (ad1.add (j * 7)).off + 4, none⟩ (some (.int .i64 y.f3.f1)) hn6_1 (HX.out.2.2.2.2.2.2.2.2.2.2.2.1) (.string x.f0) (.int .i64 x.f1) (.int .i64 x.f2) (.int .i64 x.f3.f0) (.int .i64 x.f3.f1) (.int .i64 x.f3.f2) (.slice Ax x.f4.length kx); have HS_12 : (((((((w11.setCell ⟨g6, 0, none⟩ (.string x.f0)).setCell ⟨g6, 1, none⟩ (.int .i64 x.f1)).setCell ⟨g6, 2, none⟩ (.int .i64 x.f2)).setCell ⟨g6, 3, none⟩ (.int .i64 x.f3.f0)).setCell ⟨g6, 4, none⟩ (.int .i64 x.f3.f1)).setCell ⟨g6, 5, none⟩ (.int .i64 x.f3.f2)).setCell ⟨g6, 6, none⟩ (.slice Ax x.f4.length kx)).cell? ⟨(ad1.add (j * 7)).block, (ad1.add (j * 7)).off + 5, none⟩ = some (.int .i64 y.f3.f2) := cell_fars w11 g6 ⟨(ad1.add (j * 7)).block, (ad1.add (j * 7)).off + 5, none⟩ (some (.int .i64 y.f3.f2)) hn6_1 (HX.out.2.2.2.2.2.2.2.2.2.2.2.2.1) (.string x.f0) (.int .i64 x.f1) (.int .i64 x.f2) (.int .i64 x.f3.f0) (.int .i64 x.f3.f1) (.int .i64 x.f3.f2) (.slice Ax x.f4.length kx)
 have HS_13 : (((((((w11.setCell ⟨g6, 0, none⟩ (.string x.f0)).setCell ⟨g6, 1, none⟩ (.int .i64 x.f1)).setCell ⟨g6, 2, none⟩ (.int .i64 x.f2)).setCell ⟨g6, 3, none⟩ (.int .i64 x.f3.f0)).setCell ⟨g6, 4, none⟩ (.int .i64 x.f3.f1)).setCell ⟨g6, 5, none⟩ (.int .i64 x.f3.f2)).setCell ⟨g6, 6, none⟩ (.slice Ax x.f4.length kx)).cell? ⟨(ad1.add (j * 7)).block, (ad1.add (j * 7)).off + 6, none⟩ = some (.slice Ay y.f4.length ky) := cell_fars w11 g6 ⟨(ad1.add (j * 7)).block, (ad1.add (j * 7)).off + 6, none⟩ (some (.slice Ay y.f4.length ky)) hn6_1 (HX.out.2.2.2.2.2.2.2.2.2.2.2.2.2) (.string x.f0) (.int .i64 x.f1) (.int .i64 x.f2) (.int .i64 x.f3.f0) (.int .i64 x.f3.f1) (.int .i64 x.f3.f2) (.slice Ax x.f4.length kx); have HS : (((((((w11.setCell ⟨g6, 0, none⟩ (.string x.f0)).setCell ⟨g6, 1, none⟩ (.int .i64 x.f1)).setCell ⟨g6, 2, none⟩ (.int .i64 x.f2)).setCell ⟨g6, 3, none⟩ (.int .i64 x.f3.f0)).setCell ⟨g6, 4, none⟩ (.int .i64 x.f3.f1)).setCell ⟨g6, 5, none⟩ (.int .i64 x.f3.f2)).setCell ⟨g6, 6, none⟩ (.slice Ax x.f4.length kx)).cell? (ad0.add (j * 7)) = some (.string x.f0) ∧ (((((((w11.setCell ⟨g6, 0, none⟩ (.string x.f0)).setCell ⟨g6, 1, none⟩ (.int .i64 x.f1)).setCell ⟨g6, 2, none⟩ (.int .i64 x.f2)).setCell ⟨g6, 3, none⟩ (.int .i64 x.f3.f0)).setCell ⟨g6, 4, none⟩ (.int .i64 x.f3.f1)).setCell ⟨g6, 5, none⟩ (.int .i64 x.f3.f2)).setCell ⟨g6, 6, none⟩ (.slice Ax x.f4.length kx)).cell? ⟨(ad0.add (j * 7)).block, (ad0.add (j * 7)).off + 1, none⟩ = some (.int .i64 x.f1) ∧ (((((((w11.setCell ⟨g6, 0, none⟩ (.string x.f0)).setCell ⟨g6, 1, none⟩ (.int .i64 x.f1)).setCell ⟨g6, 2, none⟩ (.int .i64 x.f2)).setCell ⟨g6, 3, none⟩ (.int .i64 x.f3.f0)).setCell ⟨g6, 4, none⟩ (.int .i64 x.f3.f1)).setCell ⟨g6, 5, none⟩ (.int .i64 x.f3.f2)).setCell ⟨g6, 6, none⟩ (.slice Ax x.f4.length kx)).cell? ⟨(ad0.add (j * 7)).block, (ad0.add (j * 7)).off + 2, none⟩ = some (.int .i64 x.f2) ∧ (((((((w11.setCell ⟨g6, 0, none⟩ (.string x.f0)).setCell ⟨g6, 1, none⟩ (.int .i64 x.f1)).setCell ⟨g6, 2, none⟩ (.int .i64 x.f2)).setCell ⟨g6, 3, none⟩ (.int .i64 x.f3.f0)).setCell ⟨g6, 4, none⟩ (.int .i64 x.f3.f1)).setCell ⟨g6, 5, none⟩ (.int .i64 x.f3.f2)).setCell ⟨g6, 6, none⟩ (.slice Ax x.f4.length kx)).cell? ⟨(ad0.add (j * 7)).block, (ad0.add (j * 7)).off + 3, none⟩ = some (.int .i64 x.f3.f0) ∧ (((((((w11.setCell ⟨g6, 0, none⟩ (.string x.f0)).setCell ⟨g6, 1, none⟩ (.int .i64 x.f1)).setCell ⟨g6, 2, none⟩ (.int .i64 x.f2)).setCell ⟨g6, 3, none⟩ (.int .i64 x.f3.f0)).setCell ⟨g6, 4, none⟩ (.int .i64 x.f3.f1)).setCell ⟨g6, 5, none⟩ (.int .i64 x.f3.f2)).setCell ⟨g6, 6, none⟩ (.slice Ax x.f4.length kx)).cell? ⟨(ad0.add (j * 7)).block, (ad0.add (j * 7)).off + 4, none⟩ = some (.int .i64 x.f3.f1) ∧ (((((((w11.setCell ⟨g6, 0, none⟩ (.string x.f0)).setCell ⟨g6, 1, none⟩ (.int .i64 x.f1)).setCell ⟨g6, 2, none⟩ (.int .i64 x.f2)).setCell ⟨g6, 3, none⟩ (.int .i64 x.f3.f0)).setCell ⟨g6, 4, none⟩ (.int .i64 x.f3.f1)).setCell ⟨g6, 5, none⟩ (.int .i64 x.f3.f2)).setCell ⟨g6, 6, none⟩ (.slice Ax x.f4.length kx)).cell? ⟨(ad0.add (j * 7)).block, (ad0.add (j * 7)).off + 5, none⟩ = some (.int .i64 x.f3.f2) ∧ (((((((w11.setCell ⟨g6, 0, none⟩ (.string x.f0)).setCell ⟨g6, 1, none⟩ (.int .i64 x.f1)).setCell ⟨g6, 2, none⟩ (.int .i64 x.f2)).setCell ⟨g6, 3, none⟩ (.int .i64 x.f3.f0)).setCell ⟨g6, 4, none⟩ (.int .i64 x.f3.f1)).setCell ⟨g6, 5, none⟩ (.int .i64 x.f3.f2)).setCell ⟨g6, 6, none⟩ (.slice Ax x.f4.length kx)).cell? ⟨(ad0.add (j * 7)).block, (ad0.add (j * 7)).off + 6, none⟩ = some (.slice Ax x.f4.length kx) ∧ (((((((w11.setCell ⟨g6, 0, none⟩ (.string x.f0)).setCell ⟨g6, 1, none⟩ (.int .i64 x.f1)).setCell ⟨g6, 2, none⟩ (.int .i64 x.f2)).setCell ⟨g6, 3, none⟩ (.int .i64 x.f3.f0)).setCell ⟨g6, 4, none⟩ (.int .i64 x.f3.f1)).setCell ⟨g6, 5, none⟩ (.int .i64 x.f3.f2)).setCell ⟨g6, 6, none⟩ (.slice Ax x.f4.length kx)).cell? (ad1.add (j * 7)) = some (.string y.f0) ∧ (((((((w11.setCell ⟨g6, 0, none⟩ (.string x.f0)).setCell ⟨g6, 1, none⟩ (.int .i64 x.f1)).setCell ⟨g6, 2, none⟩ (.int .i64 x.f2)).setCell ⟨g6, 3, none⟩ (.int .i64 x.f3.f0)).setCell ⟨g6, 4, none⟩ (.int .i64 x.f3.f1)).setCell ⟨g6, 5, none⟩ (.int .i64 x.f3.f2)).setCell ⟨g6, 6, none⟩ (.slice Ax x.f4.length kx)).cell? ⟨(ad1.add (j * 7)).block, (ad1.add (j * 7)).off + 1, none⟩ = some (.int .i64 y.f1) ∧ (((((((w11.setCell ⟨g6, 0, none⟩ (.string x.f0)).setCell ⟨g6, 1, none⟩ (.int .i64 x.f1)).setCell ⟨g6, 2, none⟩ (.int .i64 x.f2)).setCell ⟨g6, 3, none⟩ (.int .i64 x.f3.f0)).setCell ⟨g6, 4, none⟩ (.int .i64 x.f3.f1)).setCell ⟨g6, 5, none⟩ (.int .i64 x.f3.f2)).setCell ⟨g6, 6, none⟩ (.slice Ax x.f4.length kx)).cell? ⟨(ad1.add (j * 7)).block, (ad1.add (j * 7)).off + 2, none⟩ = some (.int .i64 y.f2) ∧ (((((((w11.setCell ⟨g6, 0, none⟩ (.string x.f0)).setCell ⟨g6, 1, none⟩ (.int .i64 x.f1)).setCell ⟨g6, 2, none⟩ (.int .i64 x.f2)).setCell ⟨g6, 3, none⟩ (.int .i64 x.f3.f0)).setCell ⟨g6, 4, none⟩ (.int .i64 x.f3.f1)).setCell ⟨g6, 5, none⟩ (.int .i64 x.f3.f2)).setCell ⟨g6, 6, none⟩ (.slice Ax x.f4.length kx)).cell? ⟨(ad1.add (j * 7)).block, (ad1.add (j * 7)).off + 3, none⟩ = some (.int .i64 y.f3.f0) ∧ (((((((w11.setCell ⟨g6, 0, none⟩ (.string x.f0)).setCell ⟨g6, 1, none⟩ (.int .i64 x.f1)).setCell ⟨g6, 2, none⟩ (.int .i64 x.f2)).setCell ⟨g6, 3, none⟩ (.int .i64 x.f3.f0)).setCell ⟨g6, 4, none⟩ (.int .i64 x.f3.f1)).setCell ⟨g6, 5, none⟩ (.int .i64 x.f3.f2)).setCell ⟨g6, 6, none⟩ (.slice Ax x.f4.length kx)).cell? ⟨(ad1.add (j * 7)).block, (ad1.add (j * 7)).off + 4, none⟩ = some (.int .i64 y.f3.f1) ∧ (((((((w11.setCell ⟨g6, 0, none⟩ (.string x.f0)).setCell ⟨g6, 1, none⟩ (.int .i64 x.f1)).setCell ⟨g6, 2, none⟩ (.int .i64 x.f2)).setCell ⟨g6, 3, none⟩ (.int .i64 x.f3.f0)).setCell ⟨g6, 4, none⟩ (.int .i64 x.f3.f1)).setCell ⟨g6, 5, none⟩ (.int .i64 x.f3.f2)).setCell ⟨g6, 6, none⟩ (.slice Ax x.f4.length kx)).cell? ⟨(ad1.add (j * 7)).block, (ad1.add (j * 7)).off + 5, none⟩ = some (.int .i64 y.f3.f2) ∧ (((((((w11.setCell ⟨g6, 0, none⟩ (.string x.f0)).setCell ⟨g6, 1, none⟩ (.int .i64 x.f1)).setCell ⟨g6, 2, none⟩ (.int .i64 x.f2)).setCell ⟨g6, 3, none⟩ (.int .i64 x.f3.f0)).setCell ⟨g6, 4, none⟩ (.int .i64 x.f3.f1)).setCell ⟨g6, 5, none⟩ (.int .i64 x.f3.f2)).setCell ⟨g6, 6, none⟩ (.slice Ax x.f4.length kx)).cell? ⟨(ad1.add (j * 7)).block, (ad1.add (j * 7)).off + 6, none⟩ = some (.slice Ay y.f4.length ky) := ⟨HS_0, HS_1, HS_2, HS_3, HS_4, HS_5, HS_6, HS_7, HS_8, HS_9, HS_10, HS_11, HS_12, HS_13⟩
 clear HS_0 HS_1 HS_2 HS_3 HS_4 HS_5 HS_6 HS_7 HS_8 HS_9 HS_10 HS_11 HS_12 HS_13; refine hK.out _ (((((((w11.setCell ⟨g6, 0, none⟩ (.string x.f0)).setCell ⟨g6, 1, none⟩ (.int .i64 x.f1)).setCell ⟨g6, 2, none⟩ (.int .i64 x.f2)).setCell ⟨g6, 3, none⟩ (.int .i64 x.f3.f0)).setCell ⟨g6, 4, none⟩ (.int .i64 x.f3.f1)).setCell ⟨g6, 5, none⟩ (.int .i64 x.f3.f2)).setCell ⟨g6, 6, none⟩ (.slice Ax x.f4.length kx)) HS (fun hHeld => ?_); clear hK K; have A6w : Aside0 ((((((((w11.setCell ⟨g6, 0, none⟩ (.string x.f0)).setCell ⟨g6, 1, none⟩ (.int .i64 x.f1)).setCell ⟨g6, 2, none⟩ (.int .i64 x.f2)).setCell ⟨g6, 3, none⟩ (.int .i64 x.f3.f0)).setCell ⟨g6, 4, none⟩ (.int .i64 x.f3.f1)).setCell ⟨g6, 5, none⟩ (.int .i64 x.f3.f2)).setCell ⟨g6, 6, none⟩ (.slice Ax x.f4.length kx)).heap[g6]? = some (.cells #[.string x.f0, .int .i64 x.f1, .int .i64 x.f2, .int .i64 x.f3.f0, .int .i64 x.f3.f1, .int .i64 x.f3.f2, .slice Ax x.f4.length kx] 26 (0, 0))) := ⟨by refine blk_put (cs := #[.string x.f0, .int .i64 x.f1, .int .i64 x.f2, .int .i64 x.f3.f0, .int .i64 x.f3.f1, .int .i64 x.f3.f2, .slice none 0 0]) ?_ 6 _ rfl; refine blk_put (cs := #[.string x.f0, .int .i64 x.f1, .int .i64 x.f2, .int .i64 x.f3.f0, .int .i64 x.f3.f1, .int .i64 0, .slice none 0 0]) ?_ 5 _ rfl; refine blk_put (cs := #[.string x.f0, .int .i64 x.f1, .int .i64 x.f2, .int .i64 x.f3.f0, .int .i64 0, .int .i64 0, .slice none 0 0]) ?_ 4 _ rfl; refine blk_put (cs := #[.string x.f0, .int .i64 x.f1, .int .i64 x.f2, .int .i64 0, .int .i64 0, .int .i64 0, .slice none 0 0]) ?_ 3 _ rfl; refine blk_put (cs := #[.string x.f0, .int .i64 x.f1, .int .i64 0, .int .i64 0, .int .i64 0, .int .i64 0, .slice none 0 0]) ?_ 2 _ rfl; refine blk_put (cs := #[.string x.f0, .int .i64 0, .int .i64 0, .int .i64 0, .int .i64 0, .int .i64 0, .slice none 0 0]) ?_ 1 _ rfl; refine blk_put (cs := #[.string ⟨#[]⟩, .int .i64 0, .int .i64 0, .int .i64 0, .int .i64 0, .int .i64 0, .slice none 0 0]) ?_ 0 _ rfl; exact A6.out⟩; have A7w : Aside0 ((((((((w11.setCell ⟨g6, 0, none⟩ (.string x.f0)).setCell ⟨g6, 1, none⟩ (.int .i64 x.f1)).setCell ⟨g6, 2, none⟩ (.int .i64 x.f2)).setCell ⟨g6, 3, none⟩ (.int .i64 x.f3.f0)).setCell ⟨g6, 4, none⟩ (.int .i64 x.f3.f1)).setCell ⟨g6, 5, none⟩ (.int .i64 x.f3.f2)).setCell ⟨g6, 6, none⟩ (.slice Ax x.f4.length kx)).heap[g7]? = some (.cells #[.string ⟨#[]⟩, .int .i64 0, .int .i64 0, .int .i64 0, .int .i64 0, .int .i64 0, .slice none 0 0] 26 (0, 0))) := ⟨(blk_far (blk_far (blk_far (blk_far (blk_far (blk_far (blk_far A7.out (by exact hne.symm) _) (by exact hne.symm) _) (by exact hne.symm) _) (by exact hne.symm) _) (by exact hne.symm) _) (by exact hne.symm) _) (by exact hne.symm) _)⟩; have ADw : Aside0 (Below w4.heap.size w4 (((((((w11.setCell ⟨g6, 0, none⟩ (.string x.f0)).setCell ⟨g6, 1, none⟩ (.int .i64 x.f1)).setCell ⟨g6, 2, none⟩ (.int .i64 x.f2)).setCell ⟨g6, 3, none⟩ (.int .i64 x.f3.f0)).setCell ⟨g6, 4, none⟩ (.int .i64 x.f3.f1)).setCell ⟨g6, 5, none⟩ (.int .i64 x.f3.f2)).setCell ⟨g6, 6, none⟩ (.slice Ax x.f4.length kx))) := ⟨by (repeat (first | (with_reducible exact AD.out) | (with_reducible refine below_set1 ?_ hz6)))⟩; clear HX HS A6 A7 AD c0 c1 c2 c3 c4 c5 c6 f0 f1 f2 f3 f4 f5 f6; generalize (((((((w11.setCell ⟨g6, 0, none⟩ (.string x.f0)).setCell ⟨g6, 1, none⟩ (.int .i64 x.f1)).setCell ⟨g6, 2, none⟩ (.int .i64 x.f2)).setCell ⟨g6, 3, none⟩ (.int .i64 x.f3.f0)).setCell ⟨g6, 4, none⟩ (.int .i64 x.f3.f1)).setCell ⟨g6, 5, none⟩ (.int .i64 x.f3.f2)).setCell ⟨g6, 6, none⟩ (.slice Ax x.f4.length kx)) = w12 at hHeld A6w A7w ADw ⊢; refine one_ (i := 11) (N := none) #[true, true, true, true, true, true, true, true, true, true, true, true] rfl rfl (by kernel_rfl) (by decide) (fun K hK => ?_); have HX := Lib.hid hHeld; clear hHeld; have B7w := A7w.out; have c0 := bc B7w 0 (.string ⟨#[]⟩) rfl; have c1 := bc B7w 1 (.int .i64 0) rfl; have c2 := bc B7w 2 (.int .i64 0) rfl; have c3 := bc B7w 3 (.int .i64 0) rfl; have c4 := bc B7w 4 (.int .i64 0) rfl; have c5 := bc B7w 5 (.int .i64 0) rfl; have c6 := bc B7w 6 (.slice none 0 0) rfl
 have f0 := blk_frozen B7w 0; have f1 := blk_frozen B7w 1; have f2 := blk_frozen B7w 2; have f3 := blk_frozen B7w 3; have f4 := blk_frozen B7w 4; have f5 := blk_frozen B7w 5; have f6 := blk_frozen B7w 6; clear B7w; refine skip_ (w1 := ?_) (by rfl) rfl ?_ ?_
 rotate_left
 ·go_simp
  rfl
 have HS_0 : (((((((w12.setCell ⟨g7, 0, none⟩ (.string y.f0)).setCell ⟨g7, 1, none⟩ (.int .i64 y.f1)).setCell ⟨g7, 2, none⟩ (.int .i64 y.f2)).setCell ⟨g7, 3, none⟩ (.int .i64 y.f3.f0)).setCell ⟨g7, 4, none⟩ (.int .i64 y.f3.f1)).setCell ⟨g7, 5, none⟩ (.int .i64 y.f3.f2)).setCell ⟨g7, 6, none⟩ (.slice Ay y.f4.length ky)).cell? (ad0.add (j * 7)) = some (.string x.f0) := cell_fars w12 g7 (ad0.add (j * 7)) (some (.string x.f0)) hn7_0 (HX.out.1) (.string y.f0) (.int .i64 y.f1) (.int .i64 y.f2) (.int .i64 y.f3.f0) (.int .i64 y.f3.f1) (.int .i64 y.f3.f2) (.slice Ay y.f4.length ky); have HS_1 : (((((((w12.setCell ⟨g7, 0, none⟩ (.string y.f0)).setCell ⟨g7, 1, none⟩ (.int .i64 y.f1)).setCell ⟨g7, 2, none⟩ (.int .i64 y.f2)).setCell ⟨g7, 3, none⟩ (.int .i64 y.f3.f0)).setCell ⟨g7, 4, none⟩ (.int .i64 y.f3.f1)).setCell ⟨g7, 5, none⟩ (.int .i64 y.f3.f2)).setCell ⟨g7, 6, none⟩ (.slice Ay y.f4.length ky)).cell? ⟨(ad0.add (j * 7)).block, (ad0.add (j * 7)).off + 1, none⟩ = some (.int .i64 x.f1) := cell_fars w12 g7 ⟨(ad0.add (j * 7)).block, (ad0.add (j * 7)).off + 1, none⟩ (some (.int .i64 x.f1)) hn7_0 (HX.out.2.1) (.string y.f0) (.int .i64 y.f1) (.int .i64 y.f2) (.int .i64 y.f3.f0) (.int .i64 y.f3.f1) (.int .i64 y.f3.f2) (.slice Ay y.f4.length ky); have HS_2 : (((((((w12.setCell ⟨g7, 0, none⟩ (.string y.f0)).setCell ⟨g7, 1, none⟩ (.int .i64 y.f1)).setCell ⟨g7, 2, none⟩ (.int .i64 y.f2)).setCell ⟨g7, 3, none⟩ (.int .i64 y.f3.f0)).setCell ⟨g7, 4, none⟩ (.int .i64 y.f3.f1)).setCell ⟨g7, 5, none⟩ (.int .i64 y.f3.f2)).setCell ⟨g7, 6, none⟩ (.slice Ay y.f4.length ky)).cell? ⟨(ad0.add (j * 7)).block, (ad0.add (j * 7)).off + 2, none⟩ = some (.int .i64 x.f2) := cell_fars w12 g7 ⟨(ad0.add (j * 7)).block, (ad0.add (j * 7)).off + 2, none⟩ (some (.int .i64 x.f2)) hn7_0 (HX.out.2.2.1) (.string y.f0) (.int .i64 y.f1) (.int .i64 y.f2) (.int .i64 y.f3.f0) (.int .i64 y.f3.f1) (.int .i64 y.f3.f2) (.slice Ay y.f4.length ky); have HS_3 : (((((((w12.setCell ⟨g7, 0, none⟩ (.string y.f0)).setCell ⟨g7, 1, none⟩ (.int .i64 y.f1)).setCell ⟨g7, 2, none⟩ (.int .i64 y.f2)).setCell ⟨g7, 3, none⟩ (.int .i64 y.f3.f0)).setCell ⟨g7, 4, none⟩ (.int .i64 y.f3.f1)).setCell ⟨g7, 5, none⟩ (.int .i64 y.f3.f2)).setCell ⟨g7, 6, none⟩ (.slice Ay y.f4.length ky)).cell? ⟨(ad0.add (j * 7)).block, (ad0.add (j * 7)).off + 3, none⟩ = some (.int .i64 x.f3.f0) := cell_fars w12 g7 ⟨(ad0.add (j * 7)).block, (ad0.add (j * 7)).off + 3, none⟩ (some (.int .i64 x.f3.f0)) hn7_0 (HX.out.2.2.2.1) (.string y.f0) (.int .i64 y.f1) (.int .i64 y.f2) (.int .i64 y.f3.f0) (.int .i64 y.f3.f1) (.int .i64 y.f3.f2) (.slice Ay y.f4.length ky); have HS_4 : (((((((w12.setCell ⟨g7, 0, none⟩ (.string y.f0)).setCell ⟨g7, 1, none⟩ (.int .i64 y.f1)).setCell ⟨g7, 2, none⟩ (.int .i64 y.f2)).setCell ⟨g7, 3, none⟩ (.int .i64 y.f3.f0)).setCell ⟨g7, 4, none⟩ (.int .i64 y.f3.f1)).setCell ⟨g7, 5, none⟩ (.int .i64 y.f3.f2)).setCell ⟨g7, 6, none⟩ (.slice Ay y.f4.length ky)).cell? ⟨(ad0.add (j * 7)).block, (ad0.add (j * 7)).off + 4, none⟩ = some (.int .i64 x.f3.f1) := cell_fars w12 g7 ⟨(ad0.add (j * 7)).block, (ad0.add (j * 7)).off + 4, none⟩ (some (.int .i64 x.f3.f1)) hn7_0 (HX.out.2.2.2.2.1) (.string y.f0) (.int .i64 y.f1) (.int .i64 y.f2) (.int .i64 y.f3.f0) (.int .i64 y.f3.f1) (.int .i64 y.f3.f2) (.slice Ay y.f4.length ky); have HS_5 : (((((((w12.setCell ⟨g7, 0, none⟩ (.string y.f0)).setCell ⟨g7, 1, none⟩ (.int .i64 y.f1)).setCell ⟨g7, 2, none⟩ (.int .i64 y.f2)).setCell ⟨g7, 3, none⟩ (.int .i64 y.f3.f0)).setCell ⟨g7, 4, none⟩ (.int .i64 y.f3.f1)).setCell ⟨g7, 5, none⟩ (.int .i64 y.f3.f2)).setCell ⟨g7, 6, none⟩ (.slice Ay y.f4.length ky)).cell? ⟨(ad0.add (j * 7)).block, (ad0.add (j * 7)).off + 5, none⟩ = some (.int .i64 x.f3.f2) := cell_fars w12 g7 ⟨(ad0.add (j * 7)).block, (ad0.add (j * 7)).off + 5, none⟩ (some (.int .i64 x.f3.f2)) hn7_0 (HX.out.2.2.2.2.2.1) (.string y.f0) (.int .i64 y.f1) (.int .i64 y.f2) (.int .i64 y.f3.f0) (.int .i64 y.f3.f1) (.int .i64 y.f3.f2) (.slice Ay y.f4.length ky); have HS_6 : (((((((w12.setCell ⟨g7, 0, none⟩ (.string y.f0)).setCell ⟨g7, 1, none⟩ (.int .i64 y.f1)).setCell ⟨g7, 2, none⟩ (.int .i64 y.f2)).setCell ⟨g7, 3, none⟩ (.int .i64 y.f3.f0)).setCell ⟨g7, 4, none⟩ (.int .i64 y.f3.f1)).setCell ⟨g7, 5, none⟩ (.int .i64 y.f3.f2)).setCell ⟨g7, 6, none⟩ (.slice Ay y.f4.length ky)).cell? ⟨(ad0.add (j * 7)).block, (ad0.add (j * 7)).off + 6, none⟩ = some (.slice Ax x.f4.length kx) := cell_fars w12 g7 ⟨(ad0.add (j * 7)).block, (ad0.add (j * 7)).off + 6, none⟩ (some (.slice Ax x.f4.length kx)) hn7_0 (HX.out.2.2.2.2.2.2.1) (.string y.f0) (.int .i64 y.f1) (.int .i64 y.f2) (.int .i64 y.f3.f0) (.int .i64 y.f3.f1) (.int .i64 y.f3.f2) (.slice Ay y.f4.length ky)
 have HS_7 : (((((((w12.setCell ⟨g7, 0, none⟩ (.string y.f0)).setCell ⟨g7, 1, none⟩ (.int .i64 y.f1)).setCell ⟨g7, 2, none⟩ (.int .i64 y.f2)).setCell ⟨g7, 3, none⟩ (.int .i64 y.f3.f0)).setCell ⟨g7, 4, none⟩ (.int .i64 y.f3.f1)).setCell ⟨g7, 5, none⟩ (.int .i64 y.f3.f2)).setCell ⟨g7, 6, none⟩ (.slice Ay y.f4.length ky)).cell? (ad1.add (j * 7)) = some (.string y.f0) := cell_fars w12 g7 (ad1.add (j * 7)) (some (.string y.f0)) hn7_1 (HX.out.2.2.2.2.2.2.2.1) (.string y.f0) (.int .i64 y.f1) (.int .i64 y.f2) (.int .i64 y.f3.f0) (.int .i64 y.f3.f1) (.int .i64 y.f3.f2) (.slice Ay y.f4.length ky); have HS_8 : (((((((w12.setCell ⟨g7, 0, none⟩ (.string y.f0)).setCell ⟨g7, 1, none⟩ (.int .i64 y.f1)).setCell ⟨g7, 2, none⟩ (.int .i64 y.f2)).setCell ⟨g7, 3, none⟩ (.int .i64 y.f3.f0)).setCell ⟨g7, 4, none⟩ (.int .i64 y.f3.f1)).setCell ⟨g7, 5, none⟩ (.int .i64 y.f3.f2)).setCell ⟨g7, 6, none⟩ (.slice Ay y.f4.length ky)).cell? ⟨(ad1.add (j * 7)).block, (ad1.add (j * 7)).off + 1, none⟩ = some (.int .i64 y.f1) := cell_fars w12 g7 ⟨(ad1.add (j * 7)).block, (ad1.add (j * 7)).off + 1, none⟩ (some (.int .i64 y.f1)) hn7_1 (HX.out.2.2.2.2.2.2.2.2.1) (.string y.f0) (.int .i64 y.f1) (.int .i64 y.f2) (.int .i64 y.f3.f0) (.int .i64 y.f3.f1) (.int .i64 y.f3.f2) (.slice Ay y.f4.length ky); have HS_9 : (((((((w12.setCell ⟨g7, 0, none⟩ (.string y.f0)).setCell ⟨g7, 1, none⟩ (.int .i64 y.f1)).setCell ⟨g7, 2, none⟩ (.int .i64 y.f2)).setCell ⟨g7, 3, none⟩ (.int .i64 y.f3.f0)).setCell ⟨g7, 4, none⟩ (.int .i64 y.f3.f1)).setCell ⟨g7, 5, none⟩ (.int .i64 y.f3.f2)).setCell ⟨g7, 6, none⟩ (.slice Ay y.f4.length ky)).cell? ⟨(ad1.add (j * 7)).block, (ad1.add (j * 7)).off + 2, none⟩ = some (.int .i64 y.f2) := cell_fars w12 g7 ⟨(ad1.add (j * 7)).block, (ad1.add (j * 7)).off + 2, none⟩ (some (.int .i64 y.f2)) hn7_1 (HX.out.2.2.2.2.2.2.2.2.2.1) (.string y.f0) (.int .i64 y.f1) (.int .i64 y.f2) (.int .i64 y.f3.f0) (.int .i64 y.f3.f1) (.int .i64 y.f3.f2) (.slice Ay y.f4.length ky); have HS_10 : (((((((w12.setCell ⟨g7, 0, none⟩ (.string y.f0)).setCell ⟨g7, 1, none⟩ (.int .i64 y.f1)).setCell ⟨g7, 2, none⟩ (.int .i64 y.f2)).setCell ⟨g7, 3, none⟩ (.int .i64 y.f3.f0)).setCell ⟨g7, 4, none⟩ (.int .i64 y.f3.f1)).setCell ⟨g7, 5, none⟩ (.int .i64 y.f3.f2)).setCell ⟨g7, 6, none⟩ (.slice Ay y.f4.length ky)).cell? ⟨(ad1.add (j * 7)).block, (ad1.add (j * 7)).off + 3, none⟩ = some (.int .i64 y.f3.f0) := cell_fars w12 g7 ⟨(ad1.add (j * 7)).block, (ad1.add (j * 7)).off + 3, none⟩ (some (.int .i64 y.f3.f0)) hn7_1 (HX.out.2.2.2.2.2.2.2.2.2.2.1) (.string y.f0) (.int .i64 y.f1) (.int .i64 y.f2) (.int .i64 y.f3.f0) (.int .i64 y.f3.f1) (.int .i64 y.f3.f2) (.slice Ay y.f4.length ky); have HS_11 : (((((((w12.setCell ⟨g7, 0, none⟩ (.string y.f0)).setCell ⟨g7, 1, none⟩ (.int .i64 y.f1)).setCell ⟨g7, 2, none⟩ (.int .i64 y.f2)).setCell ⟨g7, 3, none⟩ (.int .i64 y.f3.f0)).setCell ⟨g7, 4, none⟩ (.int .i64 y.f3.f1)).setCell ⟨g7, 5, none⟩ (.int .i64 y.f3.f2)).setCell ⟨g7, 6, none⟩ (.slice Ay y.f4.length ky)).cell? ⟨(ad1.add (j * 7)).block, (ad1.add (j * 7)).off + 4, none⟩ = some (.int .i64 y.f3.f1) := cell_fars w12 g7 ⟨(ad1.add (j * 7)).block, (ad1.add (j * 7)).off + 4, none⟩ (some (.int .i64 y.f3.f1)) hn7_1 (HX.out.2.2.2.2.2.2.2.2.2.2.2.1) (.string y.f0) (.int .i64 y.f1) (.int .i64 y.f2) (.int .i64 y.f3.f0) (.int .i64 y.f3.f1) (.int .i64 y.f3.f2) (.slice Ay y.f4.length ky); have HS_12 : (((((((w12.setCell ⟨g7, 0, none⟩ (.string y.f0)).setCell ⟨g7, 1, none⟩ (.int .i64 y.f1)).setCell ⟨g7, 2, none⟩ (.int .i64 y.f2)).setCell ⟨g7, 3, none⟩ (.int .i64 y.f3.f0)).setCell ⟨g7, 4, none⟩ (.int .i64 y.f3.f1)).setCell ⟨g7, 5, none⟩ (.int .i64 y.f3.f2)).setCell ⟨g7, 6, none⟩ (.slice Ay y.f4.length ky)).cell? ⟨(ad1.add (j * 7)).block, (ad1.add (j * 7)).off + 5, none⟩ = some (.int .i64 y.f3.f2) := cell_fars w12 g7 ⟨(ad1.add (j * 7)).block, (ad1.add (j * 7)).off + 5, none⟩ (some (.int .i64 y.f3.f2)) hn7_1 (HX.out.2.2.2.2.2.2.2.2.2.2.2.2.1) (.string y.f0) (.int .i64 y.f1) (.int .i64 y.f2) (.int .i64 y.f3.f0) (.int .i64 y.f3.f1) (.int .i64 y.f3.f2) (.slice Ay y.f4.length ky)
 have HS_13 : (((((((w12.setCell ⟨g7, 0, none⟩ (.string y.f0)).setCell ⟨g7, 1, none⟩ (.int .i64 y.f1)).setCell ⟨g7, 2, none⟩ (.int .i64 y.f2)).setCell ⟨g7, 3, none⟩ (.int .i64 y.f3.f0)).setCell ⟨g7, 4, none⟩ (.int .i64 y.f3.f1)).setCell ⟨g7, 5, none⟩ (.int .i64 y.f3.f2)).setCell ⟨g7, 6, none⟩ (.slice Ay y.f4.length ky)).cell? ⟨(ad1.add (j * 7)).block, (ad1.add (j * 7)).off + 6, none⟩ = some (.slice Ay y.f4.length ky) := cell_fars w12 g7 ⟨(ad1.add (j * 7)).block, (ad1.add (j * 7)).off + 6, none⟩ (some (.slice Ay y.f4.length ky)) hn7_1 (HX.out.2.2.2.2.2.2.2.2.2.2.2.2.2) (.string y.f0) (.int .i64 y.f1) (.int .i64 y.f2) (.int .i64 y.f3.f0) (.int .i64 y.f3.f1) (.int .i64 y.f3.f2) (.slice Ay y.f4.length ky); have HS : (((((((w12.setCell ⟨g7, 0, none⟩ (.string y.f0)).setCell ⟨g7, 1, none⟩ (.int .i64 y.f1)).setCell ⟨g7, 2, none⟩ (.int .i64 y.f2)).setCell ⟨g7, 3, none⟩ (.int .i64 y.f3.f0)).setCell ⟨g7, 4, none⟩ (.int .i64 y.f3.f1)).setCell ⟨g7, 5, none⟩ (.int .i64 y.f3.f2)).setCell ⟨g7, 6, none⟩ (.slice Ay y.f4.length ky)).cell? (ad0.add (j * 7)) = some (.string x.f0) ∧ (((((((w12.setCell ⟨g7, 0, none⟩ (.string y.f0)).setCell ⟨g7, 1, none⟩ (.int .i64 y.f1)).setCell ⟨g7, 2, none⟩ (.int .i64 y.f2)).setCell ⟨g7, 3, none⟩ (.int .i64 y.f3.f0)).setCell ⟨g7, 4, none⟩ (.int .i64 y.f3.f1)).setCell ⟨g7, 5, none⟩ (.int .i64 y.f3.f2)).setCell ⟨g7, 6, none⟩ (.slice Ay y.f4.length ky)).cell? ⟨(ad0.add (j * 7)).block, (ad0.add (j * 7)).off + 1, none⟩ = some (.int .i64 x.f1) ∧ (((((((w12.setCell ⟨g7, 0, none⟩ (.string y.f0)).setCell ⟨g7, 1, none⟩ (.int .i64 y.f1)).setCell ⟨g7, 2, none⟩ (.int .i64 y.f2)).setCell ⟨g7, 3, none⟩ (.int .i64 y.f3.f0)).setCell ⟨g7, 4, none⟩ (.int .i64 y.f3.f1)).setCell ⟨g7, 5, none⟩ (.int .i64 y.f3.f2)).setCell ⟨g7, 6, none⟩ (.slice Ay y.f4.length ky)).cell? ⟨(ad0.add (j * 7)).block, (ad0.add (j * 7)).off + 2, none⟩ = some (.int .i64 x.f2) ∧ (((((((w12.setCell ⟨g7, 0, none⟩ (.string y.f0)).setCell ⟨g7, 1, none⟩ (.int .i64 y.f1)).setCell ⟨g7, 2, none⟩ (.int .i64 y.f2)).setCell ⟨g7, 3, none⟩ (.int .i64 y.f3.f0)).setCell ⟨g7, 4, none⟩ (.int .i64 y.f3.f1)).setCell ⟨g7, 5, none⟩ (.int .i64 y.f3.f2)).setCell ⟨g7, 6, none⟩ (.slice Ay y.f4.length ky)).cell? ⟨(ad0.add (j * 7)).block, (ad0.add (j * 7)).off + 3, none⟩ = some (.int .i64 x.f3.f0) ∧ (((((((w12.setCell ⟨g7, 0, none⟩ (.string y.f0)).setCell ⟨g7, 1, none⟩ (.int .i64 y.f1)).setCell ⟨g7, 2, none⟩ (.int .i64 y.f2)).setCell ⟨g7, 3, none⟩ (.int .i64 y.f3.f0)).setCell ⟨g7, 4, none⟩ (.int .i64 y.f3.f1)).setCell ⟨g7, 5, none⟩ (.int .i64 y.f3.f2)).setCell ⟨g7, 6, none⟩ (.slice Ay y.f4.length ky)).cell? ⟨(ad0.add (j * 7)).block, (ad0.add (j * 7)).off + 4, none⟩ = some (.int .i64 x.f3.f1) ∧ (((((((w12.setCell ⟨g7, 0, none⟩ (.string y.f0)).setCell ⟨g7, 1, none⟩ (.int .i64 y.f1)).setCell ⟨g7, 2, none⟩ (.int .i64 y.f2)).setCell ⟨g7, 3, none⟩ (.int .i64 y.f3.f0)).setCell ⟨g7, 4, none⟩ (.int .i64 y.f3.f1)).setCell ⟨g7, 5, none⟩ (.int .i64 y.f3.f2)).setCell ⟨g7, 6, none⟩ (.slice Ay y.f4.length ky)).cell? ⟨(ad0.add (j * 7)).block, (ad0.add (j * 7)).off + 5, none⟩ = some (.int .i64 x.f3.f2) ∧ (((((((w12.setCell ⟨g7, 0, none⟩ (.string y.f0)).setCell ⟨g7, 1, none⟩ (.int .i64 y.f1)).setCell ⟨g7, 2, none⟩ (.int .i64 y.f2)).setCell ⟨g7, 3, none⟩ (.int .i64 y.f3.f0)).setCell ⟨g7, 4, none⟩ (.int .i64 y.f3.f1)).setCell ⟨g7, 5, none⟩ (.int .i64 y.f3.f2)).setCell ⟨g7, 6, none⟩ (.slice Ay y.f4.length ky)).cell? ⟨(ad0.add (j * 7)).block, (ad0.add (j * 7)).off + 6, none⟩ = some (.slice Ax x.f4.length kx) ∧ (((((((w12.setCell ⟨g7, 0, none⟩ (.string y.f0)).setCell ⟨g7, 1, none⟩ (.int .i64 y.f1)).setCell ⟨g7, 2, none⟩ (.int .i64 y.f2)).setCell ⟨g7, 3, none⟩ (.int .i64 y.f3.f0)).setCell ⟨g7, 4, none⟩ (.int .i64 y.f3.f1)).setCell ⟨g7, 5, none⟩ (.int .i64 y.f3.f2)).setCell ⟨g7, 6, none⟩ (.slice Ay y.f4.length ky)).cell? (ad1.add (j * 7)) = some (.string y.f0) ∧ (((((((w12.setCell ⟨g7, 0, none⟩ (.string y.f0)).setCell ⟨g7, 1, none⟩ (.int .i64 y.f1)).setCell ⟨g7, 2, none⟩ (.int .i64 y.f2)).setCell ⟨g7, 3, none⟩ (.int .i64 y.f3.f0)).setCell ⟨g7, 4, none⟩ (.int .i64 y.f3.f1)).setCell ⟨g7, 5, none⟩ (.int .i64 y.f3.f2)).setCell ⟨g7, 6, none⟩ (.slice Ay y.f4.length ky)).cell? ⟨(ad1.add (j * 7)).block, (ad1.add (j * 7)).off + 1, none⟩ = some (.int .i64 y.f1) ∧ (((((((w12.setCell ⟨g7, 0, none⟩ (.string y.f0)).setCell ⟨g7, 1, none⟩ (.int .i64 y.f1)).setCell ⟨g7, 2, none⟩ (.int .i64 y.f2)).setCell ⟨g7, 3, none⟩ (.int .i64 y.f3.f0)).setCell ⟨g7, 4, none⟩ (.int .i64 y.f3.f1)).setCell ⟨g7, 5, none⟩ (.int .i64 y.f3.f2)).setCell ⟨g7, 6, none⟩ (.slice Ay y.f4.length ky)).cell? ⟨(ad1.add (j * 7)).block, (ad1.add (j * 7)).off + 2, none⟩ = some (.int .i64 y.f2) ∧ (((((((w12.setCell ⟨g7, 0, none⟩ (.string y.f0)).setCell ⟨g7, 1, none⟩ (.int .i64 y.f1)).setCell ⟨g7, 2, none⟩ (.int .i64 y.f2)).setCell ⟨g7, 3, none⟩ (.int .i64 y.f3.f0)).setCell ⟨g7, 4, none⟩ (.int .i64 y.f3.f1)).setCell ⟨g7, 5, none⟩ (.int .i64 y.f3.f2)).setCell ⟨g7, 6, none⟩ (.slice Ay y.f4.length ky)).cell? ⟨(ad1.add (j * 7)).block, (ad1.add (j * 7)).off + 3, none⟩ = some (.int .i64 y.f3.f0) ∧ (((((((w12.setCell ⟨g7, 0, none⟩ (.string y.f0)).setCell ⟨g7, 1, none⟩ (.int .i64 y.f1)).setCell ⟨g7, 2, none⟩ (.int .i64 y.f2)).setCell ⟨g7, 3, none⟩ (.int .i64 y.f3.f0)).setCell ⟨g7, 4, none⟩ (.int .i64 y.f3.f1)).setCell ⟨g7, 5, none⟩ (.int .i64 y.f3.f2)).setCell ⟨g7, 6, none⟩ (.slice Ay y.f4.length ky)).cell? ⟨(ad1.add (j * 7)).block, (ad1.add (j * 7)).off + 4, none⟩ = some (.int .i64 y.f3.f1) ∧ (((((((w12.setCell ⟨g7, 0, none⟩ (.string y.f0)).setCell ⟨g7, 1, none⟩ (.int .i64 y.f1)).setCell ⟨g7, 2, none⟩ (.int .i64 y.f2)).setCell ⟨g7, 3, none⟩ (.int .i64 y.f3.f0)).setCell ⟨g7, 4, none⟩ (.int .i64 y.f3.f1)).setCell ⟨g7, 5, none⟩ (.int .i64 y.f3.f2)).setCell ⟨g7, 6, none⟩ (.slice Ay y.f4.length ky)).cell? ⟨(ad1.add (j * 7)).block, (ad1.add (j * 7)).off + 5, none⟩ = some (.int .i64 y.f3.f2) ∧ (((((((w12.setCell ⟨g7, 0, none⟩ (.string y.f0)).setCell ⟨g7, 1, none⟩ (.int .i64 y.f1)).setCell ⟨g7, 2, none⟩ (.int .i64 y.f2)).setCell ⟨g7, 3, none⟩ (.int .i64 y.f3.f0)).setCell ⟨g7, 4, none⟩ (.int .i64 y.f3.f1)).setCell ⟨g7, 5, none⟩ (.int .i64 y.f3.f2)).setCell ⟨g7, 6, none⟩ (.slice Ay y.f4.length ky)).cell? ⟨(ad1.add (j * 7)).block, (ad1.add (j * 7)).off + 6, none⟩ = some (.slice Ay y.f4.length ky) := ⟨HS_0, HS_1, HS_2, HS_3, HS_4, HS_5, HS_6, HS_7, HS_8, HS_9, HS_10, HS_11, HS_12, HS_13⟩
 clear HS_0 HS_1 HS_2 HS_3 HS_4 HS_5 HS_6 HS_7 HS_8 HS_9 HS_10 HS_11 HS_12 HS_13; refine hK.out _ (((((((w12.setCell ⟨g7, 0, none⟩ (.string y.f0)).setCell ⟨g7, 1, none⟩ (.int .i64 y.f1)).setCell ⟨g7, 2, none⟩ (.int .i64 y.f2)).setCell ⟨g7, 3, none⟩ (.int .i64 y.f3.f0)).setCell ⟨g7, 4, none⟩ (.int .i64 y.f3.f1)).setCell ⟨g7, 5, none⟩ (.int .i64 y.f3.f2)).setCell ⟨g7, 6, none⟩ (.slice Ay y.f4.length ky)) HS (fun hHeld => ?_); clear hK K; refine done_ (by kernel_rfl) ?_
 have HB2 : Below w4.heap.size w4 (((((((w12.setCell ⟨g7, 0, none⟩ (.string y.f0)).setCell ⟨g7, 1, none⟩ (.int .i64 y.f1)).setCell ⟨g7, 2, none⟩ (.int .i64 y.f2)).setCell ⟨g7, 3, none⟩ (.int .i64 y.f3.f0)).setCell ⟨g7, 4, none⟩ (.int .i64 y.f3.f1)).setCell ⟨g7, 5, none⟩ (.int .i64 y.f3.f2)).setCell ⟨g7, 6, none⟩ (.slice Ay y.f4.length ky)) := by (repeat (first | (with_reducible exact ADw.out) | (with_reducible refine below_set1 ?_ hz7)))
 have HB3 : Below wr.heap.size wr (((((((w12.setCell ⟨g7, 0, none⟩ (.string y.f0)).setCell ⟨g7, 1, none⟩ (.int .i64 y.f1)).setCell ⟨g7, 2, none⟩ (.int .i64 y.f2)).setCell ⟨g7, 3, none⟩ (.int .i64 y.f3.f0)).setCell ⟨g7, 4, none⟩ (.int .i64 y.f3.f1)).setCell ⟨g7, 5, none⟩ (.int .i64 y.f3.f2)).setCell ⟨g7, 6, none⟩ (.slice Ay y.f4.length ky)) := by subst hw4; exact ⟨HB2.os, HB2.tape, HB2.output, HB2.size, HB2.block⟩
 have hs4 : w4.heap.size = wr.heap.size := by rw [← hw4]; rfl
 rw [hs4] at hz6 hz7; exact hK.out g6 g7 _ _ _ _ _ _ _ _ _ (show (((((((w12.setCell ⟨g7, 0, none⟩ (.string y.f0)).setCell ⟨g7, 1, none⟩ (.int .i64 y.f1)).setCell ⟨g7, 2, none⟩ (.int .i64 y.f2)).setCell ⟨g7, 3, none⟩ (.int .i64 y.f3.f0)).setCell ⟨g7, 4, none⟩ (.int .i64 y.f3.f1)).setCell ⟨g7, 5, none⟩ (.int .i64 y.f3.f2)).setCell ⟨g7, 6, none⟩ (.slice Ay y.f4.length ky)).heap[g6]? = some (.cells #[.string x.f0, .int .i64 x.f1, .int .i64 x.f2, .int .i64 x.f3.f0, .int .i64 x.f3.f1, .int .i64 x.f3.f2, .slice Ax x.f4.length kx] 26 (0, 0)) from (blk_far (blk_far (blk_far (blk_far (blk_far (blk_far (blk_far A6w.out (by exact hne) _) (by exact hne) _) (by exact hne) _) (by exact hne) _) (by exact hne) _) (by exact hne) _) (by exact hne) _)) (show (((((((w12.setCell ⟨g7, 0, none⟩ (.string y.f0)).setCell ⟨g7, 1, none⟩ (.int .i64 y.f1)).setCell ⟨g7, 2, none⟩ (.int .i64 y.f2)).setCell ⟨g7, 3, none⟩ (.int .i64 y.f3.f0)).setCell ⟨g7, 4, none⟩ (.int .i64 y.f3.f1)).setCell ⟨g7, 5, none⟩ (.int .i64 y.f3.f2)).setCell ⟨g7, 6, none⟩ (.slice Ay y.f4.length ky)).heap[g7]? = some (.cells #[.string y.f0, .int .i64 y.f1, .int .i64 y.f2, .int .i64 y.f3.f0, .int .i64 y.f3.f1, .int .i64 y.f3.f2, .slice Ay y.f4.length ky] 26 (0, 0)) from by refine blk_put (cs := #[.string y.f0, .int .i64 y.f1, .int .i64 y.f2, .int .i64 y.f3.f0, .int .i64 y.f3.f1, .int .i64 y.f3.f2, .slice none 0 0]) ?_ 6 _ rfl; refine blk_put (cs := #[.string y.f0, .int .i64 y.f1, .int .i64 y.f2, .int .i64 y.f3.f0, .int .i64 y.f3.f1, .int .i64 0, .slice none 0 0]) ?_ 5 _ rfl; refine blk_put (cs := #[.string y.f0, .int .i64 y.f1, .int .i64 y.f2, .int .i64 y.f3.f0, .int .i64 0, .int .i64 0, .slice none 0 0]) ?_ 4 _ rfl; refine blk_put (cs := #[.string y.f0, .int .i64 y.f1, .int .i64 y.f2, .int .i64 0, .int .i64 0, .int .i64 0, .slice none 0 0]) ?_ 3 _ rfl; refine blk_put (cs := #[.string y.f0, .int .i64 y.f1, .int .i64 0, .int .i64 0, .int .i64 0, .int .i64 0, .slice none 0 0]) ?_ 2 _ rfl; refine blk_put (cs := #[.string y.f0, .int .i64 0, .int .i64 0, .int .i64 0, .int .i64 0, .int .i64 0, .slice none 0 0]) ?_ 1 _ rfl; refine blk_put (cs := #[.string ⟨#[]⟩, .int .i64 0, .int .i64 0, .int .i64 0, .int .i64 0, .int .i64 0, .slice none 0 0]) ?_ 0 _ rfl; exact A7w.out) hz6 hz7 hne (below_step HB.out HB2) HB3
theorem eqA23h (d : Nat) (w : World) (x0 y0 : Int) (x1 y1 : Int) (x2 y2 : Int) :
  (Op.equalIn (d + 2) 23 (.agg #[.int .i64 x0, .int .i64 x1, .int .i64 x2]) (.agg #[.int .i64 y0, .int .i64 y1, .int .i64 y2])).run Tryz.prog w = .ok (x0 == y0 && (x1 == y1 && (x2 == y2))) w := by
 refine eqA_of Tryz.underlying23 (by kernel_rfl) ?_; refine eqf_cons (by rfl) (by go_simp; rfl) (by go_simp; rfl) (by go_simp) ?_; refine eqf_cons (by rfl) (by go_simp; rfl) (by go_simp; rfl) (by go_simp) ?_; exact eqf_last (by rfl) (by go_simp; rfl) (by go_simp; rfl) (by go_simp)
theorem eqA46h (d : Nat) (w : World) (x0 y0 : Int) (x1 y1 : Int) (x2 y2 : Int) (x3 y3 : Int) :
  (Op.equalIn (d + 2) 46 (.agg #[.int .i64 x0, .int .i64 x1, .int .i64 x2, .int .i64 x3]) (.agg #[.int .i64 y0, .int .i64 y1, .int .i64 y2, .int .i64 y3])).run Tryz.prog w = .ok (x0 == y0 && (x1 == y1 && (x2 == y2 && (x3 == y3)))) w := by
 refine eqA_of Tryz.underlying46 (by kernel_rfl) ?_; refine eqf_cons (by rfl) (by go_simp; rfl) (by go_simp; rfl) (by go_simp) ?_; refine eqf_cons (by rfl) (by go_simp; rfl) (by go_simp; rfl) (by go_simp) ?_; refine eqf_cons (by rfl) (by go_simp; rfl) (by go_simp; rfl) (by go_simp) ?_; exact eqf_last (by rfl) (by go_simp; rfl) (by go_simp; rfl) (by go_simp)
attribute [local go_sem high] eqA23h eqA46h
theorem sameRolls_len : ∀ l m, sameRolls l m = true → l.length = m.length
 | [], [], _ => rfl
 | x :: l, y :: m, h => by
  unfold sameRolls at h
  rw [Bool.and_eq_true] at h; rw [List.length_cons, List.length_cons, sameRolls_len l m h.2]
 | [], _ :: _, h => by cases h
 | _ :: _, [], h => by cases h
set_option maxHeartbeats 4000000 in
set_option maxRecDepth 100000 in
theorem garmentref27_Same.calls (A0 : Option Addr) (c0 : Nat) (l0 : List (S26)) (A1 : Option Addr) (c1 : Nat) (l1 : List (S26)) (r : Bool) (w : World) (hr0 : Kd.C k26 w A0 l0.length l0) (hc0 : l0.length ≤ c0) (hr1 : Kd.C k26 w A1 l1.length l1) (hc1 : l1.length ≤ c1) (h : garmentref27_Same.f l0 l1 = some r) :
  Calls Tryz.prog 21 #[.slice A0 l0.length c0, .slice A1 l1.length c1] w fun e w' => e = .returned (.bool r) ∧ Below w.heap.size w w' := by
 have H := Lib.hid (Option.some.inj h); have HR0 := Aside0.mk hr0; have HR1 := Aside0.mk hr1; have hlm : l0.length ≤ 9223372036854775807 := hr0.2.1; clear h hr0 hr1 hc0 hc1
 go_enter Tryz.func21, Tryz.ntmps21
 by_cases hlen : l0.length = l1.length
 ·have hlI : (l0.length : Int) = (l1.length : Int) := by rw [hlen]
  have d0 : ((l0.length : Int) != (l1.length : Int)) = false := by rw [hlI]; simp
  go_wp2_with fail
  have HB := Aside0.mk (Below.refl w.heap.size w)
  go_loopw [5] (fun i wr => ∃ j : Nat, j ≤ l0.length ∧ i = .int .i64 (j : Int) ∧ Hid (sameRolls (l0.drop j) (l1.drop j) = r) ∧ Aside0 (Below w.heap.size w wr)) (fun i _ => l0.length - (intOf i).toNat)
  case atStart => exact ⟨0, Nat.zero_le _, rfl, Lib.hid (by rw [List.drop_zero, List.drop_zero]; exact H.out), HB⟩
  case round =>
   clear H; obtain ⟨j, hj, rfl, H, HB⟩ := hrel
   by_cases hlt : j < l0.length
   ·have hlt1 : j < l1.length := by omega
    have hltI : (j : Int) < (l0.length : Int) := by omega
    have hltI1 : (j : Int) < (l1.length : Int) := by omega
    have hjz : (0 : Int) ≤ (j : Int) := by omega
    obtain ⟨ad0, Ax, kx, hA, x0, x1, x2, x3, x4, x5, x6, hxk, hxC⟩ := at_T26 (Kd.C_below HR0.out HB.out) (j : Int) (by omega) (by omega); subst hA; obtain ⟨ad1, Ay, ky, hA, y0, y1, y2, y3, y4, y5, y6, hyk, hyC⟩ := at_T26 (Kd.C_below HR1.out HB.out) (j : Int) (by omega) (by omega); subst hA
    have ex : rd_T26 l0 (j : Int) = l0[j] := by show l0.getD (Int.toNat (j : Int)) _ = _; rw [Int.toNat_natCast, List.getD_eq_getElem?_getD, List.getElem?_eq_getElem hlt]; rfl
    have ey : rd_T26 l1 (j : Int) = l1[j] := by show l1.getD (Int.toNat (j : Int)) _ = _; rw [Int.toNat_natCast, List.getD_eq_getElem?_getD, List.getElem?_eq_getElem hlt1]; rfl
    simp only [Int.toNat_natCast, ex] at x0 x1 x2 x3 x4 x5 x6 hxk hxC; simp only [Int.toNat_natCast, ey] at y0 y1 y2 y3 y4 y5 y6 hyk hyC
    replace H : Hid ((sameRoll l0[j] l1[j] && sameRolls (l0.drop (j + 1)) (l1.drop (j + 1))) = r) := Lib.hid (by
     have h_ := H.out; rw [List.drop_eq_getElem_cons hlt, List.drop_eq_getElem_cons hlt1] at h_
     exact h_)
    clear ex ey; generalize l0[j] = x at *; generalize l1[j] = y at *; replace hxC := Aside0.mk hxC; replace hyC := Aside0.mk hyC
    go_upto_region 6 with (fail)
    refine same_fill _ (by kernel_rfl) l0 l1 x y ad0 ad1 c0 c1 j Ax Ay kx ky w wr _ _ _ _ _ _ _ _ _ _ _ _ _ _ _ _ _ _ _ _ _ _ _ _ _ _ _ _ _ _ _ _ _ _ _ _ _ _ _ _ _ _ _ _ _ _ _ _ _ _ _ _ _ _ _ _ _ _ _ _ _ _ _ _ _ _ _ _ _ _ _ _ _ _ _ _ _ _ _ hltI hltI1 hjz x0 x1 x2 x3 x4 x5 x6 y0 y1 y2 y3 y4 y5 y6 HB (Lib.hid fun _ _ _ _ hd_ h_ => ⟨hd_.trans h_.1, h_.2⟩) (Lib.hid ?_); intro g6 g7 w2 u20 u21 u22 u23 u24 u25 u26 u27 hb6 hb7 hz6 hz7 hne hB hB2; have B6 := Aside0.mk hb6; have B7 := Aside0.mk hb7; replace HB := Aside0.mk hB; replace hxC := Aside0.mk (Kd.C_below hxC.out hB2); replace hyC := Aside0.mk (Kd.C_below hyC.out hB2); clear hb6 hb7 hB hB2 x0 x1 x2 x3 x4 x5 x6 y0 y1 y2 y3 y4 y5 y6; have p0 := bc B6.out 0 (.string x.f0) rfl; have p1 := bc B6.out 1 (.int .i64 x.f1) rfl; have p2 := bc B6.out 2 (.int .i64 x.f2) rfl; have p3 := bc B6.out 3 (.int .i64 x.f3.f0) rfl; have p4 := bc B6.out 4 (.int .i64 x.f3.f1) rfl; have p5 := bc B6.out 5 (.int .i64 x.f3.f2) rfl; have p6 := bc B6.out 6 (.slice Ax x.f4.length kx) rfl; have q0 := bc B7.out 0 (.string y.f0) rfl; have q1 := bc B7.out 1 (.int .i64 y.f1) rfl; have q2 := bc B7.out 2 (.int .i64 y.f2) rfl; have q3 := bc B7.out 3 (.int .i64 y.f3.f0) rfl; have q4 := bc B7.out 4 (.int .i64 y.f3.f1) rfl; have q5 := bc B7.out 5 (.int .i64 y.f3.f2) rfl; have q6 := bc B7.out 6 (.slice Ay y.f4.length ky) rfl
    go_wp2_with fail
    ·rename_i h0 h1 h2 h3 h4
     have hl : (x.f4.length == y.f4.length) = false := beq_eq_false_iff_ne.2 fun e => by
      rw [show ((x.f4.length : Nat) : Int) = (y.f4.length : Int) by rw [e]] at h4
      simp at h4
     go_ret
     exact ⟨by rw [← H.out]; unfold sameRoll; rw [hl]; simp, HB.out⟩
    ·rename_i h0 h1 h2 h3 h4
     have e4 : x.f4.length = y.f4.length := by have := bne_eq_false_iff_eq.1 h4; omega
     replace H : Hid ((sameRects x.f4 y.f4 && sameRolls (l0.drop (j + 1)) (l1.drop (j + 1))) = r) := Lib.hid (by
      have h_ := H.out
      unfold sameRoll at h_
      rw [beq_iff_eq.2 h0, beq_iff_eq.2 h1, beq_iff_eq.2 h2, beq_iff_eq.2 h3.1, beq_iff_eq.2 h3.2.1, beq_iff_eq.2 h3.2.2, beq_iff_eq.2 e4] at h_
      simpa using h_)
     clear h0 h1 h2 h3 h4; have hxm : x.f4.length ≤ 9223372036854775807 := hxC.out.2.1
     go_loopw [8] (fun i W => ∃ q : Nat, q ≤ x.f4.length ∧ i = .int .i64 (q : Int) ∧ Hid ((sameRects (x.f4.drop q) (y.f4.drop q) && sameRolls (l0.drop (j + 1)) (l1.drop (j + 1))) = r) ∧ Aside0 (W.heap[g6]? = some (.cells #[.string x.f0, .int .i64 x.f1, .int .i64 x.f2, .int .i64 x.f3.f0, .int .i64 x.f3.f1, .int .i64 x.f3.f2, .slice Ax x.f4.length kx] 26 (0, 0))) ∧ Aside0 (W.heap[g7]? = some (.cells #[.string y.f0, .int .i64 y.f1, .int .i64 y.f2, .int .i64 y.f3.f0, .int .i64 y.f3.f1, .int .i64 y.f3.f2, .slice Ay y.f4.length ky] 26 (0, 0))) ∧ Aside0 (Kd.C k46 W Ax x.f4.length x.f4) ∧ Aside0 (Kd.C k46 W Ay y.f4.length y.f4) ∧ Aside0 (Below w.heap.size w W)) (fun i _ => x.f4.length - (intOf i).toNat)
     case atStart => exact ⟨0, Nat.zero_le _, rfl, Lib.hid (by rw [List.drop_zero, List.drop_zero]; exact H.out), B6, B7, hxC, hyC, HB⟩
     case round =>
      clear H; obtain ⟨q, hq, rfl, H, B6, B7, hxC, hyC, HB⟩ := hrel; have p6 := bc B6.out 6 (.slice Ax x.f4.length kx) rfl; have q6 := bc B7.out 6 (.slice Ay y.f4.length ky) rfl
      by_cases hqt : q < x.f4.length
      ·have hqI : (q : Int) < (x.f4.length : Int) := by omega
       have hqI1 : (q : Int) < (y.f4.length : Int) := by omega
       have hqz : (0 : Int) ≤ (q : Int) := by omega
       have hqt1 : q < y.f4.length := by omega
       obtain ⟨ax, hA, a0, a1, a2, a3⟩ := at_T46 hxC.out (q : Int) (by omega) (by omega); subst hA; obtain ⟨ay, hA, b0, b1, b2, b3⟩ := at_T46 hyC.out (q : Int) (by omega) (by omega); subst hA
       have ex : rd_T46 x.f4 (q : Int) = x.f4[q] := by show x.f4.getD (Int.toNat (q : Int)) _ = _; rw [Int.toNat_natCast, List.getD_eq_getElem?_getD, List.getElem?_eq_getElem hqt]; rfl
       have ey : rd_T46 y.f4 (q : Int) = y.f4[q] := by show y.f4.getD (Int.toNat (q : Int)) _ = _; rw [Int.toNat_natCast, List.getD_eq_getElem?_getD, List.getElem?_eq_getElem hqt1]; rfl
       simp only [Int.toNat_natCast, ex] at a0 a1 a2 a3; simp only [Int.toNat_natCast, ey] at b0 b1 b2 b3
       replace H : Hid (((sameRect x.f4[q] y.f4[q] && sameRects (x.f4.drop (q + 1)) (y.f4.drop (q + 1))) && sameRolls (l0.drop (j + 1)) (l1.drop (j + 1))) = r) := Lib.hid (by
        have h_ := H.out; rw [List.drop_eq_getElem_cons hqt, List.drop_eq_getElem_cons hqt1] at h_
        exact h_)
       clear ex ey; generalize x.f4[q] = fx at *; generalize y.f4[q] = fy at *
       go_wp2_with fail
       go_region
       replace B6 := Aside0.mk (blk_drew B6.out); replace B7 := Aside0.mk (blk_drew B7.out); replace hxC := Aside0.mk (Kd.C_drew hxC.out); replace hyC := Aside0.mk (Kd.C_drew hyC.out); replace HB := Aside0.mk (below_drew1 HB.out); clear a0 a1 a2 a3 b0 b1 b2 b3 p6 q6; generalize wr.drew = w3 at *
       go_wp2_with fail
       ·rename_i hne_
        have hb : sameRect fx fy = false := by
         unfold sameRect
         rcases hne_ with h_ | h_ | h_ | h_
         ·rw [Bool.not_eq_true'] at h_; rw [h_]; simp
         ·rw [Bool.not_eq_true'] at h_; rw [h_]; simp
         ·rw [Bool.not_eq_true'] at h_; rw [h_]; simp
         ·rw [Bool.not_eq_true'] at h_; rw [h_]; simp
        go_ret
        exact ⟨by rw [← H.out, hb]; simp, HB.out⟩
       ·rename_i heq_
        have hb : sameRect fx fy = true := by
         unfold sameRect
         obtain ⟨h0_, h1_, h2_, h3_⟩ := heq_; rw [Bool.not_eq_false'] at h0_ h1_ h2_ h3_; rw [h0_, h1_, h2_, h3_]; rfl
        rw [hb, Bool.true_and] at H; exact ⟨⟨q + 1, by omega, by go_num, H, B6, B7, hxC, hyC, HB⟩, by simp [intOf]; omega⟩
      ·obtain rfl : q = x.f4.length := by omega
       have hqI : ¬ (x.f4.length : Int) < (x.f4.length : Int) := by omega
       replace H : Hid (sameRolls (l0.drop (j + 1)) (l1.drop (j + 1)) = r) := Lib.hid (by
        have h_ := H.out; rw [List.drop_length, e4, List.drop_length] at h_
        simpa [sameRects] using h_)
       go_wp2_with fail
       have H2 := H.out; clear H; exact ⟨⟨j + 1, by omega, by omega, Lib.hid H2⟩, by simp [intOf]; omega⟩
    ·rename_i h0 h1 h2 h3
     have hb : (x.f3.f0 == y.f3.f0 && x.f3.f1 == y.f3.f1 && x.f3.f2 == y.f3.f2) = false := Bool.eq_false_iff.2 fun hh => h3 (by simpa [and_assoc] using hh)
     go_ret
     exact ⟨by rw [← H.out]; unfold sameRoll; rw [hb]; simp, HB.out⟩
    ·rename_i h0 h1 h2
     go_ret
     exact ⟨by rw [← H.out]; unfold sameRoll; rw [beq_eq_false_iff_ne.2 h2]; simp, HB.out⟩
    ·rename_i h0 h1
     go_ret
     exact ⟨by rw [← H.out]; unfold sameRoll; rw [beq_eq_false_iff_ne.2 h1]; simp, HB.out⟩
    ·rename_i h0
     go_ret
     exact ⟨by rw [← H.out]; unfold sameRoll; rw [beq_eq_false_iff_ne.2 h0]; simp, HB.out⟩
   ·obtain rfl : j = l0.length := by omega
    have hltI : ¬ (l0.length : Int) < (l0.length : Int) := by omega
    have hr : r = true := by
     have h_ := H.out; rw [List.drop_length, hlen, List.drop_length] at h_; rw [← h_]; rfl
    subst hr
    go_wp2_with fail
    go_ret
    exact ⟨rfl, HB.out⟩
 ·have d0 : ((l0.length : Int) != (l1.length : Int)) = true := bne_iff_ne.mpr (fun h_ => hlen (by omega))
  have hr : r = false := by
   cases hrr : r with
   | false => rfl
   | true => exact absurd (sameRolls_len l0 l1 (by rw [H.out, hrr])) hlen
  subst hr
  go_wp2_with fail
  go_ret
  exact ⟨rfl, Below.refl _ _⟩

end Go.Proofs.YtdblkmnbkpphjaaGreatDoor.P
namespace Go.Proofs.YtdblkmnbkpphjaaGreatDoor.P
open Go.RowKit Go.Proofs.YtdblkmnbkpphjaaGreatDoorW.PrintWords Go.Proofs.YtdblkmnbkpphjaaGreatDoorW.PrintLast Go.Proofs.YtdblkmnbkpphjaaGreatDoorW.PrintMore Go.Proofs.YtdblkmnbkpphjaaGreatDoorW.PrintAuto
attribute [local go_sem] max2_int min2_int max_two min_two max_three min_three max_four min_four   -- for this text's walks alone
set_option linter.unusedVariables false
set_option linter.unusedSimpArgs false

--FLAGS making laid
--IMPORT Derived.Test.YtdblkmnbkpphjaaGreatDoorBld
theorem C_one {α : Type} (d : Kd α) {w : World} {g : Nat} {t : TypeId} {fz : Nat × Nat} {c : List Value} {x : α} (hb : w.heap[g]? = some (.cells c.toArray t fz)) (hK : d.K w x c) : d.C w (some ⟨g, 0, none⟩) [x].length [x] := by
 refine ⟨rfl, by simp, fun _ => ⟨_, rfl, fun j p hj => ?_⟩⟩
 cases j with
 | zero =>
  obtain rfl : x = p := by simpa using hj
  refine ⟨c, d.K_len hK, hK, fun i u hu => ?_⟩
  have e : (⟨g, 0, none⟩ : Addr).add (0 * d.sz + i) = ⟨g, i, none⟩ := by rw [Nat.zero_mul, Nat.zero_add]; exact add_plain g i
  rw [e]
  unfold World.cell?
  rw [hb]
  simpa using hu
 | succ j => simp at hj
theorem flatMap_get {α : Type} (enc : α → List Value) (n : Nat) (h : ∀ x, (enc x).length = n) : ∀ (xs : List α) (j i : Nat) (x : α), xs[j]? = some x → i < n → (xs.flatMap enc)[j * n + i]? = (enc x)[i]?
 | [], j, i, x, hj, _ => by simp at hj
 | y :: xs, 0, i, x, hj, hi => by
  obtain rfl : y = x := by simpa using hj
  rw [List.flatMap_cons, Nat.zero_mul, Nat.zero_add, List.getElem?_append_left (by rw [h]; exact hi)]
 | y :: xs, j + 1, i, x, hj, hi => by
  rw [List.flatMap_cons, List.getElem?_append_right (by rw [h, Nat.add_mul, Nat.one_mul]; omega), h, show (j + 1) * n + i - n = j * n + i by rw [Nat.add_mul, Nat.one_mul]; omega]; exact flatMap_get enc n h xs j i x (by simpa using hj) hi
theorem C_flat {α : Type} (d : Kd α) {w : World} {g : Nat} {t : TypeId} {fz : Nat × Nat} (enc : α → List Value) (xs : List α) (hb : w.heap[g]? = some (.cells (xs.flatMap enc).toArray t fz)) (henc : ∀ x, (enc x).length = d.sz) (hK : ∀ x, d.K w x (enc x)) (hm : xs.length ≤ 9223372036854775807) : d.C w (some ⟨g, 0, none⟩) xs.length xs := by
 refine ⟨rfl, hm, fun _ => ⟨_, rfl, fun j p hj => ⟨enc p, henc p, hK p, fun i u hu => ?_⟩⟩⟩
 have hi : i < d.sz := by rw [← henc p]; exact (List.getElem?_eq_some_iff.1 hu).1
 have e : (⟨g, 0, none⟩ : Addr).add (j * d.sz + i) = ⟨g, j * d.sz + i, none⟩ := add_plain g _; rw [e]
 unfold World.cell?
 rw [hb]
 simpa [flatMap_get enc d.sz henc xs j i p hj hi] using hu
def rollX : S26 := ⟨⟨#[82, 49]⟩, 150, 1000, ⟨50, -2, 7⟩, [⟨10, 0, 5, 20⟩]⟩
def textX : ByteArray := ⟨#[114, 111, 108, 108, 32, 82, 49, 32, 49, 48, 48, 48, 32, 49, 53, 48, 32, 53, 48, 32, 45, 50, 32, 55, 32, 102, 108, 97, 119, 32, 49, 48, 32, 48, 32, 53, 32, 50, 48, 10]⟩
theorem ex_print : roll_Print.f 60 [rollX] = some (textX, 0) := by decide +kernel
theorem ex_parse : roll_Parse.f 60 ⟨#[10, 114, 111, 108, 108, 32, 82, 49, 32, 49, 48, 48, 48, 32, 49, 53, 48, 32, 53, 48, 32, 45, 50, 32, 55, 32, 102, 108, 97, 119, 32, 49, 48, 32, 48, 32, 53, 32, 50, 48, 10]⟩ = some ([rollX], 0, 0) := by kernel_rfl
theorem ex_parse2 : roll_Parse.f 60 ⟨#[10, 114, 111, 108, 108, 32, 82, 49, 32, 49, 48, 32, 49, 48, 32, 48, 32, 48, 10]⟩ = some ([], 2, 2) := by kernel_rfl
theorem ex_stretch : roll_Stretches.f 60 rollX.f0 rollX.f1 rollX.f2 rollX.f3.f0 rollX.f3.f1 rollX.f3.f2 rollX.f4 1 = some ([⟨0, 10⟩, ⟨15, 1000⟩], 0) := by kernel_rfl
theorem ex_stretch2 : roll_Stretches.f 60 rollX.f0 rollX.f1 rollX.f2 rollX.f3.f0 rollX.f3.f1 rollX.f3.f2 rollX.f4 11 = some ([⟨15, 1000⟩], 0) := by kernel_rfl
theorem ex_same : garmentref27_Same.f [rollX] [rollX] = some true := by decide +kernel
theorem ex_zones : garmentref27_SameZones.f 60 [⟨0, 10⟩, ⟨15, 1000⟩] [⟨0, 10⟩, ⟨15, 1000⟩] = some true := by decide +kernel
theorem ex_zones2 : garmentref27_SameZones.f 60 [⟨15, 1000⟩] [⟨15, 1000⟩] = some true := by decide +kernel
theorem ex_check : roll_Check.f 60 rollX.f0 rollX.f1 rollX.f2 rollX.f3.f0 rollX.f3.f1 rollX.f3.f2 rollX.f4 = some 0 := by decide +kernel
theorem ex_check2 : roll_Check.f 60 ⟨#[114]⟩ 0 0 0 0 0 [] = some 1 := by decide +kernel
def garmentlaw27_exampleHolds.f : Option (Bool) := some true
set_option maxHeartbeats 4000000 in
set_option maxRecDepth 100000 in
theorem garmentlaw27_exampleHolds.calls (r : Bool) (w : World) (h : garmentlaw27_exampleHolds.f = some r) (hG : Aside0 (GL w)) :
  Calls Tryz.prog 13 #[] w fun e w' => e = .returned (.bool r) ∧ Below w.heap.size w w' := by
 obtain rfl : true = r := Option.some.inj h; clear h
 go_enter Tryz.func13, Tryz.ntmps13
 go_wp2_with fail
 have BF := Aside0.mk (blk_alloc (blk_alloc (heap_alloc_new w (.cells #[.int .i64 10, .int .i64 0, .int .i64 5, .int .i64 20] 46)) (.cells #[.string ⟨#[82, 49]⟩, .int .i64 150, .int .i64 1000, .int .i64 50, .int .i64 (-2), .int .i64 7, .slice (some ⟨w.heap.size, 0, none⟩) 1 1] 26)) (.cells #[.string ⟨#[82, 49]⟩, .int .i64 150, .int .i64 1000, .int .i64 50, .int .i64 (-2), .int .i64 7, .slice (some ⟨w.heap.size, 0, none⟩) 1 1] 26)); have BK : Aside0 ((((w.alloc (.cells #[.int .i64 10, .int .i64 0, .int .i64 5, .int .i64 20] 46)).alloc (.cells #[.string ⟨#[82, 49]⟩, .int .i64 150, .int .i64 1000, .int .i64 50, .int .i64 (-2), .int .i64 7, .slice (some ⟨w.heap.size, 0, none⟩) 1 1] 26)).alloc (.cells #[.string ⟨#[82, 49]⟩, .int .i64 150, .int .i64 1000, .int .i64 50, .int .i64 (-2), .int .i64 7, .slice (some ⟨w.heap.size, 0, none⟩) 1 1] 26)).heap[w.heap.size + 1]? = some (.cells #[.string ⟨#[82, 49]⟩, .int .i64 150, .int .i64 1000, .int .i64 50, .int .i64 (-2), .int .i64 7, .slice (some ⟨w.heap.size, 0, none⟩) 1 1] 26)) := ⟨blk_alloc (by have h_ := heap_alloc_new (w.alloc (.cells #[.int .i64 10, .int .i64 0, .int .i64 5, .int .i64 20] 46)) (.cells #[.string ⟨#[82, 49]⟩, .int .i64 150, .int .i64 1000, .int .i64 50, .int .i64 (-2), .int .i64 7, .slice (some ⟨w.heap.size, 0, none⟩) 1 1] 26); simpa using h_) _⟩; have BP : Aside0 ((((w.alloc (.cells #[.int .i64 10, .int .i64 0, .int .i64 5, .int .i64 20] 46)).alloc (.cells #[.string ⟨#[82, 49]⟩, .int .i64 150, .int .i64 1000, .int .i64 50, .int .i64 (-2), .int .i64 7, .slice (some ⟨w.heap.size, 0, none⟩) 1 1] 26)).alloc (.cells #[.string ⟨#[82, 49]⟩, .int .i64 150, .int .i64 1000, .int .i64 50, .int .i64 (-2), .int .i64 7, .slice (some ⟨w.heap.size, 0, none⟩) 1 1] 26)).heap[w.heap.size + 1 + 1]? = some (.cells #[.string ⟨#[82, 49]⟩, .int .i64 150, .int .i64 1000, .int .i64 50, .int .i64 (-2), .int .i64 7, .slice (some ⟨w.heap.size, 0, none⟩) 1 1] 26)) := ⟨by have h_ := heap_alloc_new ((w.alloc (.cells #[.int .i64 10, .int .i64 0, .int .i64 5, .int .i64 20] 46)).alloc (.cells #[.string ⟨#[82, 49]⟩, .int .i64 150, .int .i64 1000, .int .i64 50, .int .i64 (-2), .int .i64 7, .slice (some ⟨w.heap.size, 0, none⟩) 1 1] 26)) (.cells #[.string ⟨#[82, 49]⟩, .int .i64 150, .int .i64 1000, .int .i64 50, .int .i64 (-2), .int .i64 7, .slice (some ⟨w.heap.size, 0, none⟩) 1 1] 26); simpa using h_⟩; have HB := Aside0.mk (below_alloc (below_alloc (below_alloc (Below.refl w.heap.size w) (.cells #[.int .i64 10, .int .i64 0, .int .i64 5, .int .i64 20] 46)) (.cells #[.string ⟨#[82, 49]⟩, .int .i64 150, .int .i64 1000, .int .i64 50, .int .i64 (-2), .int .i64 7, .slice (some ⟨w.heap.size, 0, none⟩) 1 1] 26)) (.cells #[.string ⟨#[82, 49]⟩, .int .i64 150, .int .i64 1000, .int .i64 50, .int .i64 (-2), .int .i64 7, .slice (some ⟨w.heap.size, 0, none⟩) 1 1] 26)); generalize (((w.alloc (.cells #[.int .i64 10, .int .i64 0, .int .i64 5, .int .i64 20] 46)).alloc (.cells #[.string ⟨#[82, 49]⟩, .int .i64 150, .int .i64 1000, .int .i64 50, .int .i64 (-2), .int .i64 7, .slice (some ⟨w.heap.size, 0, none⟩) 1 1] 26)).alloc (.cells #[.string ⟨#[82, 49]⟩, .int .i64 150, .int .i64 1000, .int .i64 50, .int .i64 (-2), .int .i64 7, .slice (some ⟨w.heap.size, 0, none⟩) 1 1] 26)) = w1 at *; refine (roll_Print.calls 60 (some ⟨w.heap.size + 1 + 1, 0, none⟩) 1 [rollX] _ _ w1 (C_one k26 BP.out (k26_mk w1 rollX (A6 := some ⟨w.heap.size, 0, none⟩) (c6 := 1) (Nat.le_refl _) (C_one k46 BF.out (k46_mk _ ⟨10, 0, 5, 20⟩)))) (Nat.le_refl _) ex_print (Aside0.mk (GL.below hG.out HB.out))).mono ?_
 rintro e w2 ⟨rfl, hb⟩
 replace BF := Aside0.mk (blk_below BF.out hb); replace BK := Aside0.mk (blk_below BK.out hb); replace HB := Aside0.mk (below_step HB.out hb); clear hb BP
 go_wp2_with fail
 refine (roll_Parse.calls 60 _ _ _ _ _ ex_parse (Aside0.mk (GL.below hG.out HB.out))).mono ?_
 rintro e w3 ⟨vl, rfl, ho, hb⟩
 have HL := Aside0.mk ho; replace BF := Aside0.mk (blk_below BF.out hb); replace BK := Aside0.mk (blk_below BK.out hb); replace HB := Aside0.mk (below_step HB.out hb); clear hb ho
 go_wp2_with fail
 refine (roll_Parse.calls 60 _ _ _ _ _ ex_parse2 (Aside0.mk (GL.below hG.out HB.out))).mono ?_
 rintro e w4 ⟨vl2, rfl, ho, hb⟩
 replace BF := Aside0.mk (blk_below BF.out hb); replace BK := Aside0.mk (blk_below BK.out hb); replace HL := Aside0.mk (Kd.S_below HL.out hb); replace HB := Aside0.mk (below_step HB.out hb); clear hb ho; have b0 := bc BK.out 0 (.string ⟨#[82, 49]⟩) rfl; have b1 := bc BK.out 1 (.int .i64 150) rfl; have b2 := bc BK.out 2 (.int .i64 1000) rfl; have b3 := bc BK.out 3 (.int .i64 50) rfl; have b4 := bc BK.out 4 (.int .i64 (-2)) rfl; have b5 := bc BK.out 5 (.int .i64 7) rfl; have b6 := bc BK.out 6 (.slice (some ⟨w.heap.size, 0, none⟩) 1 1) rfl
 go_wp2_with fail
 clear b0 b1 b2 b3 b4 b5 b6; refine (roll_Stretches.calls 60 _ _ _ _ _ _ (some ⟨w.heap.size, 0, none⟩) 1 rollX.f4 1 _ _ _ (C_one k46 BF.out (k46_mk _ ⟨10, 0, 5, 20⟩)) (Nat.le_refl _) ex_stretch).mono ?_
 rintro e w5 ⟨vz, rfl, ho, hb⟩
 have HZ := Aside0.mk ho; replace BF := Aside0.mk (blk_below BF.out hb); replace BK := Aside0.mk (blk_below BK.out hb); replace HL := Aside0.mk (Kd.S_below HL.out hb); replace HB := Aside0.mk (below_step HB.out hb); clear hb ho; have b0 := bc BK.out 0 (.string ⟨#[82, 49]⟩) rfl; have b1 := bc BK.out 1 (.int .i64 150) rfl; have b2 := bc BK.out 2 (.int .i64 1000) rfl; have b3 := bc BK.out 3 (.int .i64 50) rfl; have b4 := bc BK.out 4 (.int .i64 (-2)) rfl; have b5 := bc BK.out 5 (.int .i64 7) rfl; have b6 := bc BK.out 6 (.slice (some ⟨w.heap.size, 0, none⟩) 1 1) rfl
 go_wp2_with fail
 clear b0 b1 b2 b3 b4 b5 b6; refine (roll_Stretches.calls 60 _ _ _ _ _ _ (some ⟨w.heap.size, 0, none⟩) 1 rollX.f4 11 _ _ _ (C_one k46 BF.out (k46_mk _ ⟨10, 0, 5, 20⟩)) (Nat.le_refl _) ex_stretch2).mono ?_
 rintro e w6 ⟨vy, rfl, ho, hb⟩
 have HY := Aside0.mk ho; replace BF := Aside0.mk (blk_below BF.out hb); replace BK := Aside0.mk (blk_below BK.out hb); replace HL := Aside0.mk (Kd.S_below HL.out hb); replace HZ := Aside0.mk (Kd.R_below HZ.out hb); replace HB := Aside0.mk (below_step HB.out hb); clear hb ho; have b0 := bc BK.out 0 (.string ⟨#[82, 49]⟩) rfl; have b1 := bc BK.out 1 (.int .i64 150) rfl; have b2 := bc BK.out 2 (.int .i64 1000) rfl; have b3 := bc BK.out 3 (.int .i64 50) rfl; have b4 := bc BK.out 4 (.int .i64 (-2)) rfl; have b5 := bc BK.out 5 (.int .i64 7) rfl; have b6 := bc BK.out 6 (.slice (some ⟨w.heap.size, 0, none⟩) 1 1) rfl; obtain ⟨Al, cl, rfl⟩ := Kd.S_slice HL.out; obtain ⟨Az, cz, rfl⟩ := Kd.R_slice HZ.out; obtain ⟨Ay, cy, rfl⟩ := Kd.R_slice HY.out
 have hts : (textX.toList == ([114, 111, 108, 108, 32, 82, 49, 32, 49, 48, 48, 48, 32, 49, 53, 48, 32, 53, 48, 32, 45, 50, 32, 55, 32, 102, 108, 97, 119, 32, 49, 48, 32, 48, 32, 53, 32, 50, 48, 10] : List UInt8)) = true := by kernel_rfl
 go_wp2_with fail
 clear hts b0 b1 b2 b3 b4 b5 b6; have BP := Aside0.mk (heap_alloc_new w6 (.cells #[.string ⟨#[82, 49]⟩, .int .i64 150, .int .i64 1000, .int .i64 50, .int .i64 (-2), .int .i64 7, .slice (some ⟨w.heap.size, 0, none⟩) 1 1] 26)); replace BF := Aside0.mk (blk_alloc BF.out (.cells #[.string ⟨#[82, 49]⟩, .int .i64 150, .int .i64 1000, .int .i64 50, .int .i64 (-2), .int .i64 7, .slice (some ⟨w.heap.size, 0, none⟩) 1 1] 26)); replace BK := Aside0.mk (blk_alloc BK.out (.cells #[.string ⟨#[82, 49]⟩, .int .i64 150, .int .i64 1000, .int .i64 50, .int .i64 (-2), .int .i64 7, .slice (some ⟨w.heap.size, 0, none⟩) 1 1] 26)); replace HL := Aside0.mk (Kd.S_below HL.out (below_alloc (Below.refl _ _) (.cells #[.string ⟨#[82, 49]⟩, .int .i64 150, .int .i64 1000, .int .i64 50, .int .i64 (-2), .int .i64 7, .slice (some ⟨w.heap.size, 0, none⟩) 1 1] 26))); replace HZ := Aside0.mk (Kd.R_below HZ.out (below_alloc (Below.refl _ _) (.cells #[.string ⟨#[82, 49]⟩, .int .i64 150, .int .i64 1000, .int .i64 50, .int .i64 (-2), .int .i64 7, .slice (some ⟨w.heap.size, 0, none⟩) 1 1] 26))); replace HY := Aside0.mk (Kd.R_below HY.out (below_alloc (Below.refl _ _) (.cells #[.string ⟨#[82, 49]⟩, .int .i64 150, .int .i64 1000, .int .i64 50, .int .i64 (-2), .int .i64 7, .slice (some ⟨w.heap.size, 0, none⟩) 1 1] 26))); replace HB := Aside0.mk (below_alloc HB.out (.cells #[.string ⟨#[82, 49]⟩, .int .i64 150, .int .i64 1000, .int .i64 50, .int .i64 (-2), .int .i64 7, .slice (some ⟨w.heap.size, 0, none⟩) 1 1] 26)); generalize hw7 : w6.alloc (.cells #[.string ⟨#[82, 49]⟩, .int .i64 150, .int .i64 1000, .int .i64 50, .int .i64 (-2), .int .i64 7, .slice (some ⟨w.heap.size, 0, none⟩) 1 1] 26) = w7 at *; clear hw7; refine (garmentref27_Same.calls Al cl [rollX] (some ⟨w6.heap.size, 0, none⟩) 1 [rollX] _ w7 (Kd.S_reads' HL.out).2.2 (Kd.S_reads' HL.out).2.1 (C_one k26 BP.out (k26_mk w7 rollX (A6 := some ⟨w.heap.size, 0, none⟩) (c6 := 1) (Nat.le_refl _) (C_one k46 BF.out (k46_mk _ ⟨10, 0, 5, 20⟩)))) (Nat.le_refl _) ex_same).mono ?_
 rintro e w8 ⟨rfl, hb⟩
 replace BF := Aside0.mk (blk_below BF.out hb); replace BK := Aside0.mk (blk_below BK.out hb); replace HZ := Aside0.mk (Kd.R_below HZ.out hb); replace HY := Aside0.mk (Kd.R_below HY.out hb); replace HB := Aside0.mk (below_step HB.out hb); clear hb BP HL
 go_wp2_with fail
 have BZ := Aside0.mk (heap_alloc_new w8 (.cells #[.int .i64 0, .int .i64 10, .int .i64 15, .int .i64 1000] 44)); replace BF := Aside0.mk (blk_alloc BF.out (.cells #[.int .i64 0, .int .i64 10, .int .i64 15, .int .i64 1000] 44)); replace BK := Aside0.mk (blk_alloc BK.out (.cells #[.int .i64 0, .int .i64 10, .int .i64 15, .int .i64 1000] 44)); replace HZ := Aside0.mk (Kd.R_below HZ.out (below_alloc (Below.refl _ _) (.cells #[.int .i64 0, .int .i64 10, .int .i64 15, .int .i64 1000] 44))); replace HY := Aside0.mk (Kd.R_below HY.out (below_alloc (Below.refl _ _) (.cells #[.int .i64 0, .int .i64 10, .int .i64 15, .int .i64 1000] 44))); replace HB := Aside0.mk (below_alloc HB.out (.cells #[.int .i64 0, .int .i64 10, .int .i64 15, .int .i64 1000] 44)); generalize hw9 : w8.alloc (.cells #[.int .i64 0, .int .i64 10, .int .i64 15, .int .i64 1000] 44) = w9 at *; clear hw9; refine (garmentref27_SameZones.calls 60 Az cz [⟨0, 10⟩, ⟨15, 1000⟩] (some ⟨w8.heap.size, 0, none⟩) 2 [⟨0, 10⟩, ⟨15, 1000⟩] _ w9 (Kd.R_reads' HZ.out).2.2 (Kd.R_reads' HZ.out).2.1 (C_flat k44 (fun x => [.int .i64 x.f0, .int .i64 x.f1]) [⟨0, 10⟩, ⟨15, 1000⟩] BZ.out (fun _ => rfl) (fun x => k44_mk _ x) (by simp)) (Nat.le_refl _) ex_zones).mono ?_
 rintro e wa ⟨rfl, ⟨nd, rfl⟩⟩
 replace BF := Aside0.mk (blk_drewN BF.out nd); replace BK := Aside0.mk (blk_drewN BK.out nd); replace HZ := Aside0.mk (Kd.R_drewN HZ.out nd); replace HY := Aside0.mk (Kd.R_drewN HY.out nd); replace HB := Aside0.mk (pw_below_drewN HB.out nd); clear BZ; generalize w9.drewN nd = wb at *; have hcz := (Kd.R_reads' HZ.out).2.1; have hCZ := (Kd.R_reads' HZ.out).2.2; obtain ⟨az, hA, _⟩ := hCZ.2.2 (by decide); subst hA; have hD := Kd.C_drop (m := 1) (c := cz) hCZ (by decide) hcz; rw [if_neg (show ¬ cz = 1 from by have h_ : 2 ≤ cz := hcz; omega)] at hD; have HD := Lib.hid hD; have hcz2 : 2 ≤ cz := hcz; clear hCZ hD hcz
 go_wp2_with fail
 refine (garmentref27_SameZones.calls 60 Ay cy [⟨15, 1000⟩] (some { block := az.block, off := az.off + 2 }) (cz - 1) [⟨15, 1000⟩] _ wb (Kd.R_reads' HY.out).2.2 (Kd.R_reads' HY.out).2.1 HD.out (by show 1 ≤ cz - 1; omega) ex_zones2).mono ?_
 rintro e wc ⟨rfl, ⟨nd2, rfl⟩⟩
 replace BF := Aside0.mk (blk_drewN BF.out nd2); replace BK := Aside0.mk (blk_drewN BK.out nd2); replace HB := Aside0.mk (pw_below_drewN HB.out nd2); clear HD HZ HY; generalize wb.drewN nd2 = wc at *; have b0 := bc BK.out 0 (.string ⟨#[82, 49]⟩) rfl; have b1 := bc BK.out 1 (.int .i64 150) rfl; have b2 := bc BK.out 2 (.int .i64 1000) rfl; have b3 := bc BK.out 3 (.int .i64 50) rfl; have b4 := bc BK.out 4 (.int .i64 (-2)) rfl; have b5 := bc BK.out 5 (.int .i64 7) rfl; have b6 := bc BK.out 6 (.slice (some ⟨w.heap.size, 0, none⟩) 1 1) rfl
 go_wp2_with fail
 clear b0 b1 b2 b3 b4 b5 b6; refine (roll_Check.calls 60 _ _ _ _ _ _ (some ⟨w.heap.size, 0, none⟩) 1 rollX.f4 _ _ (C_one k46 BF.out (k46_mk _ ⟨10, 0, 5, 20⟩)) (Nat.le_refl _) ex_check).mono ?_
 rintro e wd ⟨rfl, hb⟩
 replace HB := Aside0.mk (below_step HB.out hb); clear hb BF BK
 go_wp2_with fail
 refine (roll_Check.calls 60 _ _ _ _ _ _ none 0 [] _ _ (Kd.C_nil _ _) (Nat.le_refl _) ex_check2).mono ?_
 rintro e we ⟨rfl, hb⟩
 replace HB := Aside0.mk (below_step HB.out hb); clear hb
 go_wp2_with fail
 go_ret
 exact ⟨rfl, HB.out⟩

end Go.Proofs.YtdblkmnbkpphjaaGreatDoor.P
namespace Go.Proofs.YtdblkmnbkpphjaaGreatDoor.P
open Go.RowKit Go.Proofs.YtdblkmnbkpphjaaGreatDoorW.PrintWords Go.Proofs.YtdblkmnbkpphjaaGreatDoorW.PrintLast Go.Proofs.YtdblkmnbkpphjaaGreatDoorW.PrintMore Go.Proofs.YtdblkmnbkpphjaaGreatDoorW.PrintAuto
attribute [local go_sem] max2_int min2_int max_two min_two max_three min_three max_four min_four   -- for this text's walks alone
set_option linter.unusedVariables false
set_option linter.unusedSimpArgs false

--IMPORT Derived.Test.YtdblkmnbkpphjaaGreatDoorGL
def garmentlaw27_RollChecks.f (k : Nat) (a0_0 : ByteArray) (a0_1 : Int) (a0_2 : Int) (a0_3 : Int) (a0_4 : Int) (a0_5 : Int) (l0_6 : List (S46)) : Option (Bool) := (garmentlaw27_few.f k a0_0 a0_1 a0_2 a0_3 a0_4 a0_5 l0_6).bind fun t224 => (if t224 = true then ((roll_Check.f k a0_0 a0_1 a0_2 a0_3 a0_4 a0_5 l0_6).bind fun t225 => ((garmentref27_Check.f k a0_0 a0_1 a0_2 a0_3 a0_4 a0_5 l0_6).bind fun t226 => (if t225 = t226 then ((garmentlaw27_exampleHolds.f).bind fun t227 => (some t227)) else (some false)))) else ((garmentlaw27_exampleHolds.f).bind fun t228 => (some t228)))
theorem garmentlaw27_RollChecks.mono : ∀ a0 a1 a2 a3 a4 a5 a6 k, LeO (garmentlaw27_RollChecks.f k a0 a1 a2 a3 a4 a5 a6) (garmentlaw27_RollChecks.f (k + 1) a0 a1 a2 a3 a4 a5 a6) := by
 intro a0 a1 a2 a3 a4 a5 a6 k
 unfold garmentlaw27_RollChecks.f
 repeat' first
  | (with_reducible exact garmentlaw27_few.mono _ _ _ _ _ _ _ _)
  | (with_reducible exact garmentref27_Check.mono _ _ _ _ _ _ _ _)
  | (with_reducible exact roll_Check.mono _ _ _ _ _ _ _ _)
  | (with_reducible exact LeO.refl _)
  | (with_reducible exact LeO.none _)
  | (with_reducible refine LeO.ite ?_ ?_)
  | (with_reducible refine LeO.bind ?_ (fun _ => ?_))
  | exact garmentlaw27_few.mono _ _ _ _ _ _ _ _
  | exact garmentref27_Check.mono _ _ _ _ _ _ _ _
  | exact roll_Check.mono _ _ _ _ _ _ _ _
  | exact LeO.none _
  | refine LeO.ite ?_ ?_
  | refine LeO.bind ?_ (fun _ => ?_)
def garmentlaw27_RollChecks.T1 : Bool × List (List Nat × List Nat) := (true, [([], []), ([0], [0]), ([1], [1]), ([2, 1], [2]), ([3], [3]), ([4, 3, 3], [3, 4]), ([3], [3]), ([6, 5, 3], [3, 6]), ([5, 7, 3], [3, 5, 7]), ([3, 8], [3, 8]), ([9, 7], [9]), ([10, 10], [10]), ([10, 11], [10, 11]), ([12, 11, 0, 1, 2, 3, 4, 5, 6, 7, 8, 9, 10, 11, 12], [12])])
def garmentlaw27_RollChecks.B1 : List Nat := [0, 1, 3, 7, 15, 31, 15, 127, 255, 511, 1023, 2047, 4095, 8191]
theorem garmentlaw27_RollChecks.tab1 : rtab .any (opsOf Tryz.f3 1) = garmentlaw27_RollChecks.T1 := by kernel_rfl
theorem garmentlaw27_RollChecks.bits1 : waitsOk garmentlaw27_RollChecks.T1.2 garmentlaw27_RollChecks.B1 = true := by kernel_rfl
set_option maxHeartbeats 8000000 in
set_option maxRecDepth 100000 in
theorem garmentlaw27_RollChecks.calls (k : Nat) (a0_0 : ByteArray) (a0_1 : Int) (a0_2 : Int) (a0_3 : Int) (a0_4 : Int) (a0_5 : Int) (A0_6 : Option Addr) (c0_6 : Nat) (l0_6 : List (S46)) (r : Bool) (w : World) (hr0_6 : Kd.C k46 w A0_6 l0_6.length l0_6) (hc0_6 : l0_6.length ≤ c0_6) (h : garmentlaw27_RollChecks.f k a0_0 a0_1 a0_2 a0_3 a0_4 a0_5 l0_6 = some r) (hG : Aside0 (GL w)) :
  Calls Tryz.prog 3 #[.agg #[.string a0_0, .int .i64 a0_1, .int .i64 a0_2, .int .i64 a0_3, .int .i64 a0_4, .int .i64 a0_5, .slice A0_6 l0_6.length c0_6]] w fun e w' => e = .returned (.bool r) ∧ Below w.heap.size w w' := by
 have hu26 := Tryz.underlying26; have HR0_6 := Aside0.mk hr0_6; have HC0_6 := Aside0.mk hc0_6; clear hr0_6 hc0_6; have HB := Aside0.mk (Below.refl w.heap.size w); have H : ((garmentlaw27_few.f k a0_0 a0_1 a0_2 a0_3 a0_4 a0_5 l0_6).bind fun t224 => (if t224 = true then ((roll_Check.f k a0_0 a0_1 a0_2 a0_3 a0_4 a0_5 l0_6).bind fun t225 => ((garmentref27_Check.f k a0_0 a0_1 a0_2 a0_3 a0_4 a0_5 l0_6).bind fun t226 => (if t225 = t226 then ((garmentlaw27_exampleHolds.f).bind fun t227 => (some t227)) else (some false)))) else ((garmentlaw27_exampleHolds.f).bind fun t228 => (some t228)))) = some r := h; clear h; replace H := Option.bind_eq_some_iff.mp H; obtain ⟨t224, A20, H⟩ := H; replace H : (if t224 = true then ((roll_Check.f k a0_0 a0_1 a0_2 a0_3 a0_4 a0_5 l0_6).bind fun t225 => ((garmentref27_Check.f k a0_0 a0_1 a0_2 a0_3 a0_4 a0_5 l0_6).bind fun t226 => (if t225 = t226 then ((garmentlaw27_exampleHolds.f).bind fun t227 => (some t227)) else (some false)))) else ((garmentlaw27_exampleHolds.f).bind fun t228 => (some t228))) = some r := H; have A2 := Aside0.mk A20; clear A20
 by_cases c3 : t224 = true
 ·subst c3
  have H1 : ((roll_Check.f k a0_0 a0_1 a0_2 a0_3 a0_4 a0_5 l0_6).bind fun t225 => ((garmentref27_Check.f k a0_0 a0_1 a0_2 a0_3 a0_4 a0_5 l0_6).bind fun t226 => (if t225 = t226 then ((garmentlaw27_exampleHolds.f).bind fun t227 => (some t227)) else (some false)))) = some r := by rw [if_pos rfl] at H; exact H
  clear H; have H := H1; clear H1; replace H := Option.bind_eq_some_iff.mp H; obtain ⟨t225, A40, H⟩ := H; replace H : ((garmentref27_Check.f k a0_0 a0_1 a0_2 a0_3 a0_4 a0_5 l0_6).bind fun t226 => (if t225 = t226 then ((garmentlaw27_exampleHolds.f).bind fun t227 => (some t227)) else (some false))) = some r := H; have A4 := Aside0.mk A40; clear A40; replace H := Option.bind_eq_some_iff.mp H; obtain ⟨t226, A50, H⟩ := H; replace H : (if t225 = t226 then ((garmentlaw27_exampleHolds.f).bind fun t227 => (some t227)) else (some false)) = some r := H; have A5 := Aside0.mk A50; clear A50
  by_cases c6 : t225 = t226
  ·rw [if_pos c6] at H; have c6b0 : (t225 == t226) = true := beq_iff_eq.mpr c6; have c6b1 : (t225 != t226) = false := bne_eq_false_iff_eq.mpr c6; clear c6; replace H := Option.bind_eq_some_iff.mp H; obtain ⟨t227, A70, H⟩ := H; replace H : (some t227) = some r := H; have A7 := Aside0.mk A70; clear A70; obtain rfl := Option.some.inj H
   go_enter Tryz.func3, Tryz.ntmps3
   try go_wp2_with (first | ((with_reducible refine gate_dst (N := 1) rfl ?_); refine box_event ?hg (N := 1) ?hd (cs := #[.string a0_0, .int .i64 a0_1, .int .i64 a0_2, .int .i64 a0_3, .int .i64 a0_4, .int .i64 a0_5, .slice A0_6 l0_6.length c0_6]) (t := 26) ?hr ?_; (case hd => rfl); (case hg => rfl); (case hr => first | (go_simp; done) | (go_simp; rfl)); intro gb223 hg w8 hbox hb; have BK223 := Aside0.mk (hbox); have GW223 := Aside0.mk ((by rw [hg]; exact (below_size (be HB.out)) : w.heap.size ≤ gb223)); have GE223 := Aside0.mk ((by rw [hg]; exact (below_size (be HB.out)) : w.heap.size ≤ gb223)); replace HB := Aside0.mk (below_step (be HB.out) hb); clear hb hbox hg))
   replace BK223 := Aside0.mk (blk_drew BK223.out); replace HB := Aside0.mk (below_drew1 HB.out)
   refine start_ (n := 14) (S := fun w' => w'.cell? ⟨gb223, 0, none⟩ = some (.string a0_0) ∧ w'.cell? ⟨gb223, 1, none⟩ = some (.int .i64 a0_1) ∧ w'.cell? ⟨gb223, 2, none⟩ = some (.int .i64 a0_2) ∧ w'.cell? ⟨gb223, 3, none⟩ = some (.int .i64 a0_3) ∧ w'.cell? ⟨gb223, 4, none⟩ = some (.int .i64 a0_4) ∧ w'.cell? ⟨gb223, 5, none⟩ = some (.int .i64 a0_5) ∧ w'.cell? ⟨gb223, 6, none⟩ = some (.slice A0_6 l0_6.length c0_6)) (ds := []) #[false, false, false, false, false, false, false, false, false, false, false, false, false, false] (by kernel_rfl) rfl rfl ⟨(blk_cell BK223.out 0).trans rfl, (blk_cell BK223.out 1).trans rfl, (blk_cell BK223.out 2).trans rfl, (blk_cell BK223.out 3).trans rfl, (blk_cell BK223.out 4).trans rfl, (blk_cell BK223.out 5).trans rfl, (blk_cell BK223.out 6).trans rfl⟩ (fun hHeld => ?_); refine with_tabW garmentlaw27_RollChecks.tab1 garmentlaw27_RollChecks.bits1 (fun HT_ HW_ => ?_)
   generalize w8.drew = w9 at BK223 HB hHeld ⊢; refine take_ (i := 0) (N := some 3) (v := ?_) (a' := ?_) #[true, false, false, false, false, false, false, false, false, false, false, false, false, false] rfl rfl (take_ofW HT_.out HW_.out (by kernel_rfl)) (fun _ _ _ h => h) (Or.inl ⟨by rfl, ?_⟩) hHeld ?_ ?_
   rotate_left
   ·rintro w' ⟨s0, s1, s2, s3, s4, s5, s6⟩
    go_simp
    with_reducible rfl
   rotate_left
   ·simp only [Act.put, List.setIfInBounds_toArray, List.set_cons_zero, List.set_cons_succ, i64_w, i32_w]
    rfl
   refine one_ (i := 1) (N := some 4) #[true, true, false, false, false, false, false, false, false, false, false, false, false, false] rfl rfl (one_of HT_.out (by kernel_rfl)) (by decide) (fun K hK => ?_); refine goes_ Tryz.func10 (by kernel_rfl) rfl #[.agg #[.string a0_0, .int .i64 a0_1, .int .i64 a0_2, .int .i64 a0_3, .int .i64 a0_4, .int .i64 a0_5, .slice A0_6 l0_6.length c0_6]] (by rfl) rfl rfl (by (try simp only [List.map_toArray, List.map_cons, List.map_nil]); first | done | rfl | (simp only [List.length_drop, List.length_take]; rfl)) ?_
   with_reducible refine (garmentlaw27_few.calls k a0_0 a0_1 a0_2 a0_3 a0_4 a0_5 (fun k_ => k_ < w.heap.size) _ _ l0_6 true _ ?side1 A2.out).mono ?_
   (case side1 => exact Kd.V_mk HC0_6.out (Kd.F_below (Kd.C_F k46_heap HR0_6.out) (be HB.out)))
   rintro e w10 ⟨rfl, hb⟩
   refine ⟨_, rfl, ?_⟩; replace BK223 := Aside0.mk (blk_below (bu BK223.out) hb); replace HB := Aside0.mk (below_step (be HB.out) hb)
   (try clear hb)
   (try clear hb2)
   (try clear hk)
   (try clear hi)
   refine hK.out _ _ ⟨(blk_cell BK223.out 0).trans rfl, (blk_cell BK223.out 1).trans rfl, (blk_cell BK223.out 2).trans rfl, (blk_cell BK223.out 3).trans rfl, (blk_cell BK223.out 4).trans rfl, (blk_cell BK223.out 5).trans rfl, (blk_cell BK223.out 6).trans rfl⟩ (fun hHeld => ?_); clear hK K; refine norm_ (a' := ?_) ?_ ?_
   rotate_left
   ·show Act.put _ (some 4) _ = _
    simp only [Act.put, List.setIfInBounds_toArray, List.set_cons_zero, List.set_cons_succ, i64_w, i32_w]
    rfl
   refine pureA (i := 2) (N := some 5) #[true, true, true, false, false, false, false, false, false, false, false, false, false, false] rfl rfl HT_.out (by kernel_rfl) ?_; refine pureA (i := 3) (N := some 6) #[true, true, true, true, false, false, false, false, false, false, false, false, false, false] rfl rfl HT_.out (by kernel_rfl) ?_; refine take_ (i := 4) (N := some 7) (v := ?_) (a' := ?_) #[true, true, true, true, true, false, false, false, false, false, false, false, false, false] rfl rfl (take_ofW HT_.out HW_.out (by kernel_rfl)) (fun _ _ _ h => h) (Or.inl ⟨by rfl, ?_⟩) hHeld ?_ ?_
   rotate_left
   ·rintro w' ⟨s0, s1, s2, s3, s4, s5, s6⟩
    go_simp
    with_reducible rfl
   rotate_left
   ·simp only [Act.put, List.setIfInBounds_toArray, List.set_cons_zero, List.set_cons_succ, i64_w, i32_w]
    rfl
   refine take_ (i := 6) (N := some 9) (v := ?_) (a' := ?_) #[true, true, true, true, true, false, true, false, false, false, false, false, false, false] rfl rfl (take_ofW HT_.out HW_.out (by kernel_rfl)) (fun _ _ _ h => h) (Or.inl ⟨by rfl, ?_⟩) hHeld ?_ ?_
   rotate_left
   ·rintro w' ⟨s0, s1, s2, s3, s4, s5, s6⟩
    go_simp
    with_reducible rfl
   rotate_left
   ·simp only [Act.put, List.setIfInBounds_toArray, List.set_cons_zero, List.set_cons_succ, i64_w, i32_w]
    rfl
   refine one_ (i := 5) (N := some 8) #[true, true, true, true, true, true, true, false, false, false, false, false, false, false] rfl rfl (one_of HT_.out (by kernel_rfl)) (by decide) (fun K hK => ?_); refine goes_ Tryz.func11 (by kernel_rfl) rfl #[.agg #[.string a0_0, .int .i64 a0_1, .int .i64 a0_2, .int .i64 a0_3, .int .i64 a0_4, .int .i64 a0_5, .slice A0_6 l0_6.length c0_6]] (by rfl) rfl rfl (by (try simp only [List.map_toArray, List.map_cons, List.map_nil]); first | done | rfl | (simp only [List.length_drop, List.length_take]; rfl)) ?_
   with_reducible refine (roll_Check.calls k a0_0 a0_1 a0_2 a0_3 a0_4 a0_5 _ _ l0_6 t225 _ ?side1 ?side2 A4.out).mono ?_
   (case side1 => exact cu (Kd.C_below HR0_6.out HB.out))
   (case side2 => exact HC0_6.out)
   rintro e w11 ⟨rfl, hb⟩
   refine ⟨_, rfl, ?_⟩; replace BK223 := Aside0.mk (blk_below (bu BK223.out) hb); replace HB := Aside0.mk (below_step (be HB.out) hb)
   (try clear hb)
   (try clear hb2)
   (try clear hk)
   (try clear hi)
   refine hK.out _ _ ⟨(blk_cell BK223.out 0).trans rfl, (blk_cell BK223.out 1).trans rfl, (blk_cell BK223.out 2).trans rfl, (blk_cell BK223.out 3).trans rfl, (blk_cell BK223.out 4).trans rfl, (blk_cell BK223.out 5).trans rfl, (blk_cell BK223.out 6).trans rfl⟩ (fun hHeld => ?_); clear hK K; refine norm_ (a' := ?_) ?_ ?_
   rotate_left
   ·show Act.put _ (some 8) _ = _
    simp only [Act.put, List.setIfInBounds_toArray, List.set_cons_zero, List.set_cons_succ, i64_w, i32_w]
    rfl
   refine one_ (i := 7) (N := some 10) #[true, true, true, true, true, true, true, true, false, false, false, false, false, false] rfl rfl (one_of HT_.out (by kernel_rfl)) (by decide) (fun K hK => ?_); refine goes_ Tryz.func12 (by kernel_rfl) rfl #[.agg #[.string a0_0, .int .i64 a0_1, .int .i64 a0_2, .int .i64 a0_3, .int .i64 a0_4, .int .i64 a0_5, .slice A0_6 l0_6.length c0_6]] (by rfl) rfl rfl (by (try simp only [List.map_toArray, List.map_cons, List.map_nil]); first | done | rfl | (simp only [List.length_drop, List.length_take]; rfl)) ?_
   with_reducible refine (garmentref27_Check.calls k a0_0 a0_1 a0_2 a0_3 a0_4 a0_5 _ _ l0_6 t226 _ ?side1 ?side2 A5.out).mono ?_
   (case side1 => exact cu (Kd.C_below HR0_6.out HB.out))
   (case side2 => exact HC0_6.out)
   rintro e w12 ⟨rfl, hb⟩
   refine ⟨_, rfl, ?_⟩; replace BK223 := Aside0.mk (blk_below (bu BK223.out) hb); replace HB := Aside0.mk (below_step (be HB.out) hb)
   (try clear hb)
   (try clear hb2)
   (try clear hk)
   (try clear hi)
   refine hK.out _ _ ⟨(blk_cell BK223.out 0).trans rfl, (blk_cell BK223.out 1).trans rfl, (blk_cell BK223.out 2).trans rfl, (blk_cell BK223.out 3).trans rfl, (blk_cell BK223.out 4).trans rfl, (blk_cell BK223.out 5).trans rfl, (blk_cell BK223.out 6).trans rfl⟩ (fun hHeld => ?_); clear hK K; refine norm_ (a' := ?_) ?_ ?_
   rotate_left
   ·show Act.put _ (some 10) _ = _
    simp only [Act.put, List.setIfInBounds_toArray, List.set_cons_zero, List.set_cons_succ, i64_w, i32_w]
    rfl
   refine pureA (i := 8) (N := some 11) #[true, true, true, true, true, true, true, true, true, false, false, false, false, false] rfl rfl HT_.out (by kernel_rfl) ?_; refine pureA (i := 9) (N := some 12) #[true, true, true, true, true, true, true, true, true, true, false, false, false, false] rfl rfl HT_.out (by kernel_rfl) ?_; refine pureA (i := 10) (N := some 13) #[true, true, true, true, true, true, true, true, true, true, true, false, false, false] rfl rfl HT_.out (by kernel_rfl) ?_; refine one_ (i := 11) (N := some 14) #[true, true, true, true, true, true, true, true, true, true, true, true, false, false] rfl rfl (one_of HT_.out (by kernel_rfl)) (by decide) (fun K hK => ?_); refine goes_ Tryz.func13 (by kernel_rfl) rfl #[] (by rfl) rfl rfl (by (try simp only [List.map_toArray, List.map_cons, List.map_nil]); first | done | rfl | (simp only [List.length_drop, List.length_take]; rfl)) ?_
   with_reducible refine (garmentlaw27_exampleHolds.calls  t227 _ A7.out (by first | exact Aside0.mk (GL.below hG.out (be HB.out)) | exact hG)).mono ?_
   rintro e w13 ⟨rfl, hb⟩
   refine ⟨_, rfl, ?_⟩; replace BK223 := Aside0.mk (blk_below (bu BK223.out) hb); replace HB := Aside0.mk (below_step (be HB.out) hb)
   (try clear hb)
   (try clear hb2)
   (try clear hk)
   (try clear hi)
   refine hK.out _ _ ⟨(blk_cell BK223.out 0).trans rfl, (blk_cell BK223.out 1).trans rfl, (blk_cell BK223.out 2).trans rfl, (blk_cell BK223.out 3).trans rfl, (blk_cell BK223.out 4).trans rfl, (blk_cell BK223.out 5).trans rfl, (blk_cell BK223.out 6).trans rfl⟩ (fun hHeld => ?_); clear hK K; refine norm_ (a' := ?_) ?_ ?_
   rotate_left
   ·show Act.put _ (some 14) _ = _
    simp only [Act.put, List.setIfInBounds_toArray, List.set_cons_zero, List.set_cons_succ, i64_w, i32_w]
    rfl
   refine pureA (i := 12) (N := some 15) #[true, true, true, true, true, true, true, true, true, true, true, true, true, false] rfl rfl HT_.out (by kernel_rfl) ?_; refine pureA (i := 13) (N := some 2) #[true, true, true, true, true, true, true, true, true, true, true, true, true, true] rfl rfl HT_.out (by kernel_rfl) ?_; refine done_ (done_of HT_.out (by kernel_rfl)) ?_
   try go_wp2
   go_ret
   exact ⟨by first | rfl | (simp [errW_none, errW_some] <;> rfl) | (simp [*, errW_none, errW_some] <;> rfl), be HB.out⟩
  ·rw [if_neg c6] at H; have c6b0 : (t225 == t226) = false := beq_eq_false_iff_ne.mpr c6; have c6b1 : (t225 != t226) = true := bne_iff_ne.mpr c6; obtain rfl := Option.some.inj H
   go_enter Tryz.func3, Tryz.ntmps3
   try go_wp2_with (first | ((with_reducible refine gate_dst (N := 1) rfl ?_); refine box_event ?hg (N := 1) ?hd (cs := #[.string a0_0, .int .i64 a0_1, .int .i64 a0_2, .int .i64 a0_3, .int .i64 a0_4, .int .i64 a0_5, .slice A0_6 l0_6.length c0_6]) (t := 26) ?hr ?_; (case hd => rfl); (case hg => rfl); (case hr => first | (go_simp; done) | (go_simp; rfl)); intro gb223 hg w14 hbox hb; have BK223 := Aside0.mk (hbox); have GW223 := Aside0.mk ((by rw [hg]; exact (below_size (be HB.out)) : w.heap.size ≤ gb223)); have GE223 := Aside0.mk ((by rw [hg]; exact (below_size (be HB.out)) : w.heap.size ≤ gb223)); replace HB := Aside0.mk (below_step (be HB.out) hb); clear hb hbox hg))
   replace BK223 := Aside0.mk (blk_drew BK223.out); replace HB := Aside0.mk (below_drew1 HB.out)
   refine start_ (n := 14) (S := fun w' => w'.cell? ⟨gb223, 0, none⟩ = some (.string a0_0) ∧ w'.cell? ⟨gb223, 1, none⟩ = some (.int .i64 a0_1) ∧ w'.cell? ⟨gb223, 2, none⟩ = some (.int .i64 a0_2) ∧ w'.cell? ⟨gb223, 3, none⟩ = some (.int .i64 a0_3) ∧ w'.cell? ⟨gb223, 4, none⟩ = some (.int .i64 a0_4) ∧ w'.cell? ⟨gb223, 5, none⟩ = some (.int .i64 a0_5) ∧ w'.cell? ⟨gb223, 6, none⟩ = some (.slice A0_6 l0_6.length c0_6)) (ds := []) #[false, false, false, false, false, false, false, false, false, false, false, false, false, false] (by kernel_rfl) rfl rfl ⟨(blk_cell BK223.out 0).trans rfl, (blk_cell BK223.out 1).trans rfl, (blk_cell BK223.out 2).trans rfl, (blk_cell BK223.out 3).trans rfl, (blk_cell BK223.out 4).trans rfl, (blk_cell BK223.out 5).trans rfl, (blk_cell BK223.out 6).trans rfl⟩ (fun hHeld => ?_); refine with_tabW garmentlaw27_RollChecks.tab1 garmentlaw27_RollChecks.bits1 (fun HT_ HW_ => ?_)
   generalize w14.drew = w15 at BK223 HB hHeld ⊢; refine take_ (i := 0) (N := some 3) (v := ?_) (a' := ?_) #[true, false, false, false, false, false, false, false, false, false, false, false, false, false] rfl rfl (take_ofW HT_.out HW_.out (by kernel_rfl)) (fun _ _ _ h => h) (Or.inl ⟨by rfl, ?_⟩) hHeld ?_ ?_
   rotate_left
   ·rintro w' ⟨s0, s1, s2, s3, s4, s5, s6⟩
    go_simp
    with_reducible rfl
   rotate_left
   ·simp only [Act.put, List.setIfInBounds_toArray, List.set_cons_zero, List.set_cons_succ, i64_w, i32_w]
    rfl
   refine one_ (i := 1) (N := some 4) #[true, true, false, false, false, false, false, false, false, false, false, false, false, false] rfl rfl (one_of HT_.out (by kernel_rfl)) (by decide) (fun K hK => ?_); refine goes_ Tryz.func10 (by kernel_rfl) rfl #[.agg #[.string a0_0, .int .i64 a0_1, .int .i64 a0_2, .int .i64 a0_3, .int .i64 a0_4, .int .i64 a0_5, .slice A0_6 l0_6.length c0_6]] (by rfl) rfl rfl (by (try simp only [List.map_toArray, List.map_cons, List.map_nil]); first | done | rfl | (simp only [List.length_drop, List.length_take]; rfl)) ?_
   with_reducible refine (garmentlaw27_few.calls k a0_0 a0_1 a0_2 a0_3 a0_4 a0_5 (fun k_ => k_ < w.heap.size) _ _ l0_6 true _ ?side1 A2.out).mono ?_
   (case side1 => exact Kd.V_mk HC0_6.out (Kd.F_below (Kd.C_F k46_heap HR0_6.out) (be HB.out)))
   rintro e w16 ⟨rfl, hb⟩
   refine ⟨_, rfl, ?_⟩; replace BK223 := Aside0.mk (blk_below (bu BK223.out) hb); replace HB := Aside0.mk (below_step (be HB.out) hb)
   (try clear hb)
   (try clear hb2)
   (try clear hk)
   (try clear hi)
   refine hK.out _ _ ⟨(blk_cell BK223.out 0).trans rfl, (blk_cell BK223.out 1).trans rfl, (blk_cell BK223.out 2).trans rfl, (blk_cell BK223.out 3).trans rfl, (blk_cell BK223.out 4).trans rfl, (blk_cell BK223.out 5).trans rfl, (blk_cell BK223.out 6).trans rfl⟩ (fun hHeld => ?_); clear hK K; refine norm_ (a' := ?_) ?_ ?_
   rotate_left
   ·show Act.put _ (some 4) _ = _
    simp only [Act.put, List.setIfInBounds_toArray, List.set_cons_zero, List.set_cons_succ, i64_w, i32_w]
    rfl
   refine pureA (i := 2) (N := some 5) #[true, true, true, false, false, false, false, false, false, false, false, false, false, false] rfl rfl HT_.out (by kernel_rfl) ?_; refine pureA (i := 3) (N := some 6) #[true, true, true, true, false, false, false, false, false, false, false, false, false, false] rfl rfl HT_.out (by kernel_rfl) ?_; refine take_ (i := 4) (N := some 7) (v := ?_) (a' := ?_) #[true, true, true, true, true, false, false, false, false, false, false, false, false, false] rfl rfl (take_ofW HT_.out HW_.out (by kernel_rfl)) (fun _ _ _ h => h) (Or.inl ⟨by rfl, ?_⟩) hHeld ?_ ?_
   rotate_left
   ·rintro w' ⟨s0, s1, s2, s3, s4, s5, s6⟩
    go_simp
    with_reducible rfl
   rotate_left
   ·simp only [Act.put, List.setIfInBounds_toArray, List.set_cons_zero, List.set_cons_succ, i64_w, i32_w]
    rfl
   refine take_ (i := 6) (N := some 9) (v := ?_) (a' := ?_) #[true, true, true, true, true, false, true, false, false, false, false, false, false, false] rfl rfl (take_ofW HT_.out HW_.out (by kernel_rfl)) (fun _ _ _ h => h) (Or.inl ⟨by rfl, ?_⟩) hHeld ?_ ?_
   rotate_left
   ·rintro w' ⟨s0, s1, s2, s3, s4, s5, s6⟩
    go_simp
    with_reducible rfl
   rotate_left
   ·simp only [Act.put, List.setIfInBounds_toArray, List.set_cons_zero, List.set_cons_succ, i64_w, i32_w]
    rfl
   refine one_ (i := 5) (N := some 8) #[true, true, true, true, true, true, true, false, false, false, false, false, false, false] rfl rfl (one_of HT_.out (by kernel_rfl)) (by decide) (fun K hK => ?_); refine goes_ Tryz.func11 (by kernel_rfl) rfl #[.agg #[.string a0_0, .int .i64 a0_1, .int .i64 a0_2, .int .i64 a0_3, .int .i64 a0_4, .int .i64 a0_5, .slice A0_6 l0_6.length c0_6]] (by rfl) rfl rfl (by (try simp only [List.map_toArray, List.map_cons, List.map_nil]); first | done | rfl | (simp only [List.length_drop, List.length_take]; rfl)) ?_
   with_reducible refine (roll_Check.calls k a0_0 a0_1 a0_2 a0_3 a0_4 a0_5 _ _ l0_6 t225 _ ?side1 ?side2 A4.out).mono ?_
   (case side1 => exact cu (Kd.C_below HR0_6.out HB.out))
   (case side2 => exact HC0_6.out)
   rintro e w17 ⟨rfl, hb⟩
   refine ⟨_, rfl, ?_⟩; replace BK223 := Aside0.mk (blk_below (bu BK223.out) hb); replace HB := Aside0.mk (below_step (be HB.out) hb)
   (try clear hb)
   (try clear hb2)
   (try clear hk)
   (try clear hi)
   refine hK.out _ _ ⟨(blk_cell BK223.out 0).trans rfl, (blk_cell BK223.out 1).trans rfl, (blk_cell BK223.out 2).trans rfl, (blk_cell BK223.out 3).trans rfl, (blk_cell BK223.out 4).trans rfl, (blk_cell BK223.out 5).trans rfl, (blk_cell BK223.out 6).trans rfl⟩ (fun hHeld => ?_); clear hK K; refine norm_ (a' := ?_) ?_ ?_
   rotate_left
   ·show Act.put _ (some 8) _ = _
    simp only [Act.put, List.setIfInBounds_toArray, List.set_cons_zero, List.set_cons_succ, i64_w, i32_w]
    rfl
   refine one_ (i := 7) (N := some 10) #[true, true, true, true, true, true, true, true, false, false, false, false, false, false] rfl rfl (one_of HT_.out (by kernel_rfl)) (by decide) (fun K hK => ?_); refine goes_ Tryz.func12 (by kernel_rfl) rfl #[.agg #[.string a0_0, .int .i64 a0_1, .int .i64 a0_2, .int .i64 a0_3, .int .i64 a0_4, .int .i64 a0_5, .slice A0_6 l0_6.length c0_6]] (by rfl) rfl rfl (by (try simp only [List.map_toArray, List.map_cons, List.map_nil]); first | done | rfl | (simp only [List.length_drop, List.length_take]; rfl)) ?_
   with_reducible refine (garmentref27_Check.calls k a0_0 a0_1 a0_2 a0_3 a0_4 a0_5 _ _ l0_6 t226 _ ?side1 ?side2 A5.out).mono ?_
   (case side1 => exact cu (Kd.C_below HR0_6.out HB.out))
   (case side2 => exact HC0_6.out)
   rintro e w18 ⟨rfl, hb⟩
   refine ⟨_, rfl, ?_⟩; replace BK223 := Aside0.mk (blk_below (bu BK223.out) hb); replace HB := Aside0.mk (below_step (be HB.out) hb)
   (try clear hb)
   (try clear hb2)
   (try clear hk)
   (try clear hi)
   refine hK.out _ _ ⟨(blk_cell BK223.out 0).trans rfl, (blk_cell BK223.out 1).trans rfl, (blk_cell BK223.out 2).trans rfl, (blk_cell BK223.out 3).trans rfl, (blk_cell BK223.out 4).trans rfl, (blk_cell BK223.out 5).trans rfl, (blk_cell BK223.out 6).trans rfl⟩ (fun hHeld => ?_); clear hK K; refine norm_ (a' := ?_) ?_ ?_
   rotate_left
   ·show Act.put _ (some 10) _ = _
    simp only [Act.put, List.setIfInBounds_toArray, List.set_cons_zero, List.set_cons_succ, i64_w, i32_w]
    rfl
   refine pureA (i := 8) (N := some 11) #[true, true, true, true, true, true, true, true, true, false, false, false, false, false] rfl rfl HT_.out (by kernel_rfl) ?_; refine pureA (i := 9) (N := some 12) #[true, true, true, true, true, true, true, true, true, true, false, false, false, false] rfl rfl HT_.out (by kernel_rfl) ?_; refine pureA (i := 10) (N := some 13) #[true, true, true, true, true, true, true, true, true, true, true, false, false, false] rfl rfl HT_.out (by kernel_rfl) ?_; refine pure_ (i := 11) (N := some 14) (v := undef) (a' := ?_) #[true, true, true, true, true, true, true, true, true, true, true, true, false, false] rfl rfl (any_of HT_.out (by kernel_rfl)) (fun _ _ _ h => h) (Or.inr ⟨by rfl, rfl⟩) ?_ ?_
   rotate_left
   ·simp only [Act.put, List.setIfInBounds_toArray, List.set_cons_zero, List.set_cons_succ, i64_w, i32_w]
    rfl
   refine pureA (i := 12) (N := some 15) #[true, true, true, true, true, true, true, true, true, true, true, true, true, false] rfl rfl HT_.out (by kernel_rfl) ?_; refine pureA (i := 13) (N := some 2) #[true, true, true, true, true, true, true, true, true, true, true, true, true, true] rfl rfl HT_.out (by kernel_rfl) ?_; refine done_ (done_of HT_.out (by kernel_rfl)) ?_
   try go_wp2
   go_ret
   exact ⟨by first | rfl | (simp [errW_none, errW_some] <;> rfl) | (simp [*, errW_none, errW_some] <;> rfl), be HB.out⟩
 ·replace c3 := Bool.eq_false_iff.mpr c3; subst c3
  have H1 : ((garmentlaw27_exampleHolds.f).bind fun t228 => (some t228)) = some r := by rw [if_neg (show ¬ (false = true) by decide)] at H; exact H
  clear H; have H := H1; clear H1; replace H := Option.bind_eq_some_iff.mp H; obtain ⟨t228, A190, H⟩ := H; replace H : (some t228) = some r := H; have A19 := Aside0.mk A190; clear A190; obtain rfl := Option.some.inj H
  go_enter Tryz.func3, Tryz.ntmps3
  try go_wp2_with (first | ((with_reducible refine gate_dst (N := 1) rfl ?_); refine box_event ?hg (N := 1) ?hd (cs := #[.string a0_0, .int .i64 a0_1, .int .i64 a0_2, .int .i64 a0_3, .int .i64 a0_4, .int .i64 a0_5, .slice A0_6 l0_6.length c0_6]) (t := 26) ?hr ?_; (case hd => rfl); (case hg => rfl); (case hr => first | (go_simp; done) | (go_simp; rfl)); intro gb223 hg w20 hbox hb; have BK223 := Aside0.mk (hbox); have GW223 := Aside0.mk ((by rw [hg]; exact (below_size (be HB.out)) : w.heap.size ≤ gb223)); have GE223 := Aside0.mk ((by rw [hg]; exact (below_size (be HB.out)) : w.heap.size ≤ gb223)); replace HB := Aside0.mk (below_step (be HB.out) hb); clear hb hbox hg))
  replace BK223 := Aside0.mk (blk_drew BK223.out); replace HB := Aside0.mk (below_drew1 HB.out)
  refine start_ (n := 14) (S := fun w' => w'.cell? ⟨gb223, 0, none⟩ = some (.string a0_0) ∧ w'.cell? ⟨gb223, 1, none⟩ = some (.int .i64 a0_1) ∧ w'.cell? ⟨gb223, 2, none⟩ = some (.int .i64 a0_2) ∧ w'.cell? ⟨gb223, 3, none⟩ = some (.int .i64 a0_3) ∧ w'.cell? ⟨gb223, 4, none⟩ = some (.int .i64 a0_4) ∧ w'.cell? ⟨gb223, 5, none⟩ = some (.int .i64 a0_5) ∧ w'.cell? ⟨gb223, 6, none⟩ = some (.slice A0_6 l0_6.length c0_6)) (ds := []) #[false, false, false, false, false, false, false, false, false, false, false, false, false, false] (by kernel_rfl) rfl rfl ⟨(blk_cell BK223.out 0).trans rfl, (blk_cell BK223.out 1).trans rfl, (blk_cell BK223.out 2).trans rfl, (blk_cell BK223.out 3).trans rfl, (blk_cell BK223.out 4).trans rfl, (blk_cell BK223.out 5).trans rfl, (blk_cell BK223.out 6).trans rfl⟩ (fun hHeld => ?_); refine with_tabW garmentlaw27_RollChecks.tab1 garmentlaw27_RollChecks.bits1 (fun HT_ HW_ => ?_)
  generalize w20.drew = w21 at BK223 HB hHeld ⊢; refine take_ (i := 0) (N := some 3) (v := ?_) (a' := ?_) #[true, false, false, false, false, false, false, false, false, false, false, false, false, false] rfl rfl (take_ofW HT_.out HW_.out (by kernel_rfl)) (fun _ _ _ h => h) (Or.inl ⟨by rfl, ?_⟩) hHeld ?_ ?_
  rotate_left
  ·rintro w' ⟨s0, s1, s2, s3, s4, s5, s6⟩
   go_simp
   with_reducible rfl
  rotate_left
  ·simp only [Act.put, List.setIfInBounds_toArray, List.set_cons_zero, List.set_cons_succ, i64_w, i32_w]
   rfl
  refine one_ (i := 1) (N := some 4) #[true, true, false, false, false, false, false, false, false, false, false, false, false, false] rfl rfl (one_of HT_.out (by kernel_rfl)) (by decide) (fun K hK => ?_); refine goes_ Tryz.func10 (by kernel_rfl) rfl #[.agg #[.string a0_0, .int .i64 a0_1, .int .i64 a0_2, .int .i64 a0_3, .int .i64 a0_4, .int .i64 a0_5, .slice A0_6 l0_6.length c0_6]] (by rfl) rfl rfl (by (try simp only [List.map_toArray, List.map_cons, List.map_nil]); first | done | rfl | (simp only [List.length_drop, List.length_take]; rfl)) ?_
  with_reducible refine (garmentlaw27_few.calls k a0_0 a0_1 a0_2 a0_3 a0_4 a0_5 (fun k_ => k_ < w.heap.size) _ _ l0_6 false _ ?side1 A2.out).mono ?_
  (case side1 => exact Kd.V_mk HC0_6.out (Kd.F_below (Kd.C_F k46_heap HR0_6.out) (be HB.out)))
  rintro e w22 ⟨rfl, hb⟩
  refine ⟨_, rfl, ?_⟩; replace BK223 := Aside0.mk (blk_below (bu BK223.out) hb); replace HB := Aside0.mk (below_step (be HB.out) hb)
  (try clear hb)
  (try clear hb2)
  (try clear hk)
  (try clear hi)
  refine hK.out _ _ ⟨(blk_cell BK223.out 0).trans rfl, (blk_cell BK223.out 1).trans rfl, (blk_cell BK223.out 2).trans rfl, (blk_cell BK223.out 3).trans rfl, (blk_cell BK223.out 4).trans rfl, (blk_cell BK223.out 5).trans rfl, (blk_cell BK223.out 6).trans rfl⟩ (fun hHeld => ?_); clear hK K; refine norm_ (a' := ?_) ?_ ?_
  rotate_left
  ·show Act.put _ (some 4) _ = _
   simp only [Act.put, List.setIfInBounds_toArray, List.set_cons_zero, List.set_cons_succ, i64_w, i32_w]
   rfl
  refine pureA (i := 2) (N := some 5) #[true, true, true, false, false, false, false, false, false, false, false, false, false, false] rfl rfl HT_.out (by kernel_rfl) ?_; refine pureA (i := 3) (N := some 6) #[true, true, true, true, false, false, false, false, false, false, false, false, false, false] rfl rfl HT_.out (by kernel_rfl) ?_; refine pure_ (i := 4) (N := some 7) (v := undef) (a' := ?_) #[true, true, true, true, true, false, false, false, false, false, false, false, false, false] rfl rfl (any_of HT_.out (by kernel_rfl)) (fun _ _ _ h => h) (Or.inr ⟨by rfl, rfl⟩) ?_ ?_
  rotate_left
  ·simp only [Act.put, List.setIfInBounds_toArray, List.set_cons_zero, List.set_cons_succ, i64_w, i32_w]
   rfl
  refine pure_ (i := 5) (N := some 8) (v := undef) (a' := ?_) #[true, true, true, true, true, true, false, false, false, false, false, false, false, false] rfl rfl (any_of HT_.out (by kernel_rfl)) (fun _ _ _ h => h) (Or.inr ⟨by rfl, rfl⟩) ?_ ?_
  rotate_left
  ·simp only [Act.put, List.setIfInBounds_toArray, List.set_cons_zero, List.set_cons_succ, i64_w, i32_w]
   rfl
  refine pure_ (i := 6) (N := some 9) (v := undef) (a' := ?_) #[true, true, true, true, true, true, true, false, false, false, false, false, false, false] rfl rfl (any_of HT_.out (by kernel_rfl)) (fun _ _ _ h => h) (Or.inr ⟨by rfl, rfl⟩) ?_ ?_
  rotate_left
  ·simp only [Act.put, List.setIfInBounds_toArray, List.set_cons_zero, List.set_cons_succ, i64_w, i32_w]
   rfl
  refine pure_ (i := 7) (N := some 10) (v := undef) (a' := ?_) #[true, true, true, true, true, true, true, true, false, false, false, false, false, false] rfl rfl (any_of HT_.out (by kernel_rfl)) (fun _ _ _ h => h) (Or.inr ⟨by rfl, rfl⟩) ?_ ?_
  rotate_left
  ·simp only [Act.put, List.setIfInBounds_toArray, List.set_cons_zero, List.set_cons_succ, i64_w, i32_w]
   rfl
  refine pure_ (i := 8) (N := some 11) (v := undef) (a' := ?_) #[true, true, true, true, true, true, true, true, true, false, false, false, false, false] rfl rfl (any_of HT_.out (by kernel_rfl)) (fun _ _ _ h => h) (Or.inr ⟨by rfl, rfl⟩) ?_ ?_
  rotate_left
  ·simp only [Act.put, List.setIfInBounds_toArray, List.set_cons_zero, List.set_cons_succ, i64_w, i32_w]
   rfl
  refine pureA (i := 9) (N := some 12) #[true, true, true, true, true, true, true, true, true, true, false, false, false, false] rfl rfl HT_.out (by kernel_rfl) ?_; refine pureA (i := 10) (N := some 13) #[true, true, true, true, true, true, true, true, true, true, true, false, false, false] rfl rfl HT_.out (by kernel_rfl) ?_; refine one_ (i := 11) (N := some 14) #[true, true, true, true, true, true, true, true, true, true, true, true, false, false] rfl rfl (one_of HT_.out (by kernel_rfl)) (by decide) (fun K hK => ?_); refine goes_ Tryz.func13 (by kernel_rfl) rfl #[] (by rfl) rfl rfl (by (try simp only [List.map_toArray, List.map_cons, List.map_nil]); first | done | rfl | (simp only [List.length_drop, List.length_take]; rfl)) ?_
  with_reducible refine (garmentlaw27_exampleHolds.calls  t228 _ A19.out (by first | exact Aside0.mk (GL.below hG.out (be HB.out)) | exact hG)).mono ?_
  rintro e w23 ⟨rfl, hb⟩
  refine ⟨_, rfl, ?_⟩; replace BK223 := Aside0.mk (blk_below (bu BK223.out) hb); replace HB := Aside0.mk (below_step (be HB.out) hb)
  (try clear hb)
  (try clear hb2)
  (try clear hk)
  (try clear hi)
  refine hK.out _ _ ⟨(blk_cell BK223.out 0).trans rfl, (blk_cell BK223.out 1).trans rfl, (blk_cell BK223.out 2).trans rfl, (blk_cell BK223.out 3).trans rfl, (blk_cell BK223.out 4).trans rfl, (blk_cell BK223.out 5).trans rfl, (blk_cell BK223.out 6).trans rfl⟩ (fun hHeld => ?_); clear hK K; refine norm_ (a' := ?_) ?_ ?_
  rotate_left
  ·show Act.put _ (some 14) _ = _
   simp only [Act.put, List.setIfInBounds_toArray, List.set_cons_zero, List.set_cons_succ, i64_w, i32_w]
   rfl
  refine pureA (i := 12) (N := some 15) #[true, true, true, true, true, true, true, true, true, true, true, true, true, false] rfl rfl HT_.out (by kernel_rfl) ?_; refine pureA (i := 13) (N := some 2) #[true, true, true, true, true, true, true, true, true, true, true, true, true, true] rfl rfl HT_.out (by kernel_rfl) ?_; refine done_ (done_of HT_.out (by kernel_rfl)) ?_
  try go_wp2
  go_ret
  exact ⟨by first | rfl | (simp [errW_none, errW_some] <;> rfl) | (simp [*, errW_none, errW_some] <;> rfl), be HB.out⟩

end Go.Proofs.YtdblkmnbkpphjaaGreatDoor.P
