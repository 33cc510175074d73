/- The functions that the law reaches: what each computes, and that its code computes it. -/
import Derived.Test.YtdblkmnbkpphjaaGreatDoorBP0
import Derived.Test.YtdblkmnbkpphjaaGreatDoorBAuto
import Derived.Test.YtdblkmnbkpphjaaGreatDoorBIdxS
import Derived.Test.YtdblkmnbkpphjaaGreatDoorBGL
import Derived.Test.YtdblkmnbkpphjaaGreatDoorBBld
import Derived.StillTailTactics
import Derived.Test.YtdblkmnbkpphjaaGreatDoorBSortLay
import Derived.Lib.SliceRun
import Derived.Shelf.SlSortCmp.NoneTotal
namespace Go.Proofs.YtdblkmnbkpphjaaGreatDoor.P
open Go.RowKit Go.Proofs.YtdblkmnbkpphjaaGreatDoorW.PrintWords Go.Proofs.YtdblkmnbkpphjaaGreatDoorW.PrintLast Go.Proofs.YtdblkmnbkpphjaaGreatDoorW.PrintMore Go.Proofs.YtdblkmnbkpphjaaGreatDoorW.PrintAuto
attribute [local go_sem] max2_int min2_int max_two min_two max_three min_three max_four min_four   -- for this text's walks alone
set_option linter.unusedVariables false
set_option linter.unusedSimpArgs false

mutual
def garmentref27_Few.l0 : Nat → List (S26) → Int → Option (Bool)
 | 0, _, _ => none
 | k + 1, x0, x3 => if x3 < (x0.length : Int) then (garmentref27_Few.j1 k x0 x3 (decide (x3 < 30))) else (garmentref27_Few.j1 k x0 x3 false)
def garmentref27_Few.j1 : Nat → List (S26) → Int → Bool → Option (Bool)
 | 0, _, _, _ => none
 | k + 1, x0, x3, x11 => if x11 = true then (if 0 ≤ x3 then (if x3 < (x0.length : Int) then (if (((rd_T26 x0 x3).f4).length : Int) > 30 then (garmentref27_Few.j2 k x0 x3 true) else (garmentref27_Few.j2 k x0 x3 (decide ((((rd_T26 x0 x3).f0).size : Int) > 100)))) else (none)) else (none)) else (some (decide ((x0.length : Int) ≤ 30)))
def garmentref27_Few.j2 : Nat → List (S26) → Int → Bool → Option (Bool)
 | 0, _, _, _ => none
 | k + 1, x0, x3, x29 => if x29 = true then (some false) else (garmentref27_Few.l0 k x0 (wrap64 (x3 + 1)))
end
def garmentref27_Few.f (k : Nat) (l0 : List (S26)) : Option (Bool) := garmentref27_Few.l0 k l0 0
theorem garmentref27_Few.mono_l : ∀ k, (∀ y0 y1, LeO (garmentref27_Few.l0 k y0 y1) (garmentref27_Few.l0 (k + 1) y0 y1)) ∧ (∀ y0 y1 y2, LeO (garmentref27_Few.j1 k y0 y1 y2) (garmentref27_Few.j1 (k + 1) y0 y1 y2)) ∧ (∀ y0 y1 y2, LeO (garmentref27_Few.j2 k y0 y1 y2) (garmentref27_Few.j2 (k + 1) y0 y1 y2))
 | 0 => ⟨fun _ _ r h => by simp [garmentref27_Few.l0] at h, fun _ _ _ r h => by simp [garmentref27_Few.j1] at h, fun _ _ _ r h => by simp [garmentref27_Few.j2] at h⟩
 | k + 1 => by
  obtain ⟨ih0, ih1, ih2⟩ := garmentref27_Few.mono_l k
  refine ⟨?_, ?_, ?_⟩
  ·intro y0 y1
   unfold garmentref27_Few.l0
   repeat' first
   | (with_reducible exact ih0 _ _)
   | (with_reducible exact ih1 _ _ _)
   | (with_reducible exact ih2 _ _ _)
   | (with_reducible exact LeO.refl _)
   | (with_reducible exact LeO.none _)
   | (with_reducible refine LeO.ite ?_ ?_)
   | (with_reducible refine LeO.bind ?_ (fun _ => ?_))
   | exact ih0 _ _
   | exact ih1 _ _ _
   | exact ih2 _ _ _
   | exact LeO.none _
   | refine LeO.ite ?_ ?_
   | refine LeO.bind ?_ (fun _ => ?_)
  ·intro y0 y1 y2
   unfold garmentref27_Few.j1
   repeat' first
   | (with_reducible exact ih0 _ _)
   | (with_reducible exact ih1 _ _ _)
   | (with_reducible exact ih2 _ _ _)
   | (with_reducible exact LeO.refl _)
   | (with_reducible exact LeO.none _)
   | (with_reducible refine LeO.ite ?_ ?_)
   | (with_reducible refine LeO.bind ?_ (fun _ => ?_))
   | exact ih0 _ _
   | exact ih1 _ _ _
   | exact ih2 _ _ _
   | exact LeO.none _
   | refine LeO.ite ?_ ?_
   | refine LeO.bind ?_ (fun _ => ?_)
  ·intro y0 y1 y2
   unfold garmentref27_Few.j2
   repeat' first
   | (with_reducible exact ih0 _ _)
   | (with_reducible exact ih1 _ _ _)
   | (with_reducible exact ih2 _ _ _)
   | (with_reducible exact LeO.refl _)
   | (with_reducible exact LeO.none _)
   | (with_reducible refine LeO.ite ?_ ?_)
   | (with_reducible refine LeO.bind ?_ (fun _ => ?_))
   | exact ih0 _ _
   | exact ih1 _ _ _
   | exact ih2 _ _ _
   | exact LeO.none _
   | refine LeO.ite ?_ ?_
   | refine LeO.bind ?_ (fun _ => ?_)
theorem garmentref27_Few.mono : ∀ a0 k, LeO (garmentref27_Few.f k a0) (garmentref27_Few.f (k + 1) a0) := by
 intro a0 k; obtain ⟨ih0, ih1, ih2⟩ := garmentref27_Few.mono_l k
 unfold garmentref27_Few.f
 repeat' first
  | (with_reducible exact ih0 _ _)
  | (with_reducible exact ih1 _ _ _)
  | (with_reducible exact ih2 _ _ _)
  | (with_reducible exact LeO.refl _)
  | (with_reducible exact LeO.none _)
  | (with_reducible refine LeO.ite ?_ ?_)
  | (with_reducible refine LeO.bind ?_ (fun _ => ?_))
  | exact ih0 _ _
  | exact ih1 _ _ _
  | exact ih2 _ _ _
  | exact LeO.none _
  | refine LeO.ite ?_ ?_
  | refine LeO.bind ?_ (fun _ => ?_)
set_option maxHeartbeats 8000000 in
set_option maxRecDepth 100000 in
theorem garmentref27_Few.calls (k : Nat) (A0 : Option Addr) (c0 : Nat) (l0 : List (S26)) (r : Bool) (w : World) (hr0 : Kd.C k26 w A0 l0.length l0) (hc0 : l0.length ≤ c0) (h : garmentref27_Few.f k l0 = some r) :
  Calls Tryz.prog 14 #[.slice A0 l0.length c0] w fun e w' => e = .returned (.bool r) ∧ Drawn0 w w' := by
 have HR0 := Aside0.mk hr0; have HC0 := Aside0.mk hc0; clear hr0 hc0; have H : (garmentref27_Few.l0 k l0 0) = some r := h; clear h; have H' := Aside0.mk H; clear H
 go_enter Tryz.func14, Tryz.ntmps14
 go_wp2
 go_loopg [3] k (fun kq v3 w' => ∃ (x3_1 : Int), v3 = .int .i64 x3_1 ∧ Aside0 (garmentref27_Few.l0 kq l0 x3_1 = some r) ∧ Aside0 (kq ≤ k) ∧ Drawn0 w w')
 case atStart => exact ⟨(0), (by first | rfl | (simp; done) | (simp [*]; done)), H', ⟨Nat.le_refl _⟩, by repeat (first | exact Drawn0.refl _ | apply Drawn0.step)⟩
 case round =>
  clear H'
  try clear c1
  obtain ⟨x3_1, rfl, HA, HK1, ⟨m1, rfl⟩⟩ := hrel
  cases gk with
  | zero => exact absurd HA.out (by simp [garmentref27_Few.l0])
  | succ k1 =>
   have H := HA.out; clear HA; simp only [garmentref27_Few.l0] at H; have HC2 := Aside0.mk H; clear H
   go_upto_region 2 with (fail)
   go_cut [11] (fun v11 wc => ∃ (kq : Nat) (x11_1 : Bool), v11 = .bool x11_1 ∧ Aside0 (garmentref27_Few.j1 kq l0 x3_1 x11_1 = some r) ∧ Aside0 (kq ≤ k1) ∧ Drawn0 w wc)
   case first =>
    have H := HC2.out; clear HC2
    by_cases c3 : x3_1 < (l0.length : Int)
    ·rw [if_pos c3] at H; have c3b0 : decide (x3_1 < (l0.length : Int)) = true := decide_eq_true c3; clear c3
     (first | rw [c3b0] | (simp only [i64_w, i32_w]; rw [c3b0]) | skip)
     have H' := Aside0.mk H; clear H
     go_wp2
     go_meet
     case rel => exact ⟨_, (decide (x3_1 < 30)), (by first | rfl | (simp; done) | (simp [*]; done)), H', ⟨by have := HK1.out; first | omega | exact Nat.le_refl _⟩, by repeat (first | exact Drawn0.refl _ | apply Drawn0.step)⟩
    ·rw [if_neg c3] at H; have c3b0 : decide (x3_1 < (l0.length : Int)) = false := decide_eq_false c3; clear c3
     (first | rw [c3b0] | (simp only [i64_w, i32_w]; rw [c3b0]) | skip)
     have H' := Aside0.mk H; clear H
     go_wp2
     go_meet
     case rel => exact ⟨_, (false), (by first | rfl | (simp; done) | (simp [*]; done)), H', ⟨by have := HK1.out; first | omega | exact Nat.le_refl _⟩, by repeat (first | exact Drawn0.refl _ | apply Drawn0.step)⟩
   case rest =>
    clear HC2
    try clear c1
    try clear p2
    try clear c3
    try clear c3b0
    obtain ⟨kq, x11_1, rfl, HA, HJ1, ⟨mc1, rfl⟩⟩ := hcut
    cases kq with
    | zero => exact absurd HA.out (by simp [garmentref27_Few.j1])
    | succ kj1 =>
     have H := HA.out; clear HA; simp only [garmentref27_Few.j1] at H
     by_cases c4 : x11_1 = true
     ·subst c4
      have H1 : (if 0 ≤ x3_1 then (if x3_1 < (l0.length : Int) then (if (((rd_T26 l0 x3_1).f4).length : Int) > 30 then (garmentref27_Few.j2 kj1 l0 x3_1 true) else (garmentref27_Few.j2 kj1 l0 x3_1 (decide ((((rd_T26 l0 x3_1).f0).size : Int) > 100)))) else (none)) else (none)) = some r := by rw [if_pos rfl] at H; exact H
      clear H; have H := H1; clear H1; have HC5 := Aside0.mk H; clear H
      go_upto_region 4 with (fail)
      go_cut [29] (fun v29 wc => ∃ (kq : Nat) (x29_4 : Bool), v29 = .bool x29_4 ∧ Aside0 (garmentref27_Few.j2 kq l0 x3_1 x29_4 = some r) ∧ Aside0 (kq ≤ kj1) ∧ Drawn0 w wc)
      case first =>
       have H := HC5.out; clear HC5
       by_cases c6 : 0 ≤ x3_1
       ·rw [if_pos c6] at H; have c6b0 : decide (0 ≤ x3_1) = true := decide_eq_true c6; clear c6
        (first | rw [c6b0] | (simp only [i64_w, i32_w]; rw [c6b0]) | skip)
        by_cases c7 : x3_1 < (l0.length : Int)
        ·rw [if_pos c7] at H; have c7b0 : decide (x3_1 < (l0.length : Int)) = true := decide_eq_true c7; clear c7
         by_cases c8 : (((rd_T26 l0 x3_1).f4).length : Int) > 30
         ·rw [if_pos c8] at H; have c8b0 : decide (30 < (((rd_T26 l0 x3_1).f4).length : Int)) = true := decide_eq_true c8; have c8b1 : decide (30 < ((rd_T26 l0 x3_1).f4).length) = true := decide_eq_true (by omega); clear c8; have H' := Aside0.mk H; clear H; have p101 : 0 ≤ (x3_1 : Int) := oda; have q101 : x3_1 < (l0.length : Int) := oda; obtain ⟨ad101, A101_6, c101_6, e101, hx101_0, hx101_1, hx101_2, hx101_3, hx101_4, hx101_5, hx101_6, hl101_6, hi101_6⟩ := at_T26 HR0.out x3_1 p101 q101; cases e101; have HR101_6 := Aside0.mk hi101_6; have HC101_6 := Aside0.mk hl101_6; clear hi101_6 hl101_6; replace p101 := eq_true p101; replace q101 := eq_true q101
          go_wp2
          go_meet
          case rel => exact ⟨_, (true), (by first | rfl | (simp; done) | (simp [*]; done)), H', ⟨by have := HK1.out; have := HJ1.out; first | omega | exact Nat.le_refl _⟩, by repeat (first | exact Drawn0.refl _ | apply Drawn0.step)⟩
         ·rw [if_neg c8] at H; have c8b0 : decide (30 < (((rd_T26 l0 x3_1).f4).length : Int)) = false := decide_eq_false c8; have c8b1 : decide (30 < ((rd_T26 l0 x3_1).f4).length) = false := decide_eq_false (by omega); clear c8; have H' := Aside0.mk H; clear H; have p101 : 0 ≤ (x3_1 : Int) := oda; have q101 : x3_1 < (l0.length : Int) := oda; obtain ⟨ad101, A101_6, c101_6, e101, hx101_0, hx101_1, hx101_2, hx101_3, hx101_4, hx101_5, hx101_6, hl101_6, hi101_6⟩ := at_T26 HR0.out x3_1 p101 q101; cases e101; have HR101_6 := Aside0.mk hi101_6; have HC101_6 := Aside0.mk hl101_6; clear hi101_6 hl101_6; replace p101 := eq_true p101; replace q101 := eq_true q101; have p102 : 0 ≤ (x3_1 : Int) := oda; have q102 : x3_1 < (l0.length : Int) := oda; obtain ⟨ad102, A102_6, c102_6, e102, hx102_0, hx102_1, hx102_2, hx102_3, hx102_4, hx102_5, hx102_6, hl102_6, hi102_6⟩ := at_T26 HR0.out x3_1 p102 q102; obtain rfl : ad101 = ad102 := (by injection e102); have HR102_6 := Aside0.mk hi102_6; have HC102_6 := Aside0.mk hl102_6; clear hi102_6 hl102_6; replace p102 := eq_true p102; replace q102 := eq_true q102; have ea_ := Option.some.inj (hx101_6.symm.trans hx102_6)
          injection ea_ with ea_ en_ ec_
          subst ea_; subst ec_; clear en_
          go_wp2
          go_meet
          case rel => exact ⟨_, (decide ((((rd_T26 l0 x3_1).f0).size : Int) > 100)), (by first | rfl | (simp; done) | (simp [*]; done)), H', ⟨by have := HK1.out; have := HJ1.out; first | omega | exact Nat.le_refl _⟩, by repeat (first | exact Drawn0.refl _ | apply Drawn0.step)⟩
        ·rw [if_neg c7] at H; exact absurd H (by simp)
       ·rw [if_neg c6] at H; exact absurd H (by simp)
      case rest =>
       clear HC5
       try clear c1
       try clear p1
       try clear q1
       try clear hx1
       try clear p2
       try clear c3
       try clear c3b0
       try clear c4
       try clear c6
       try clear c6b0
       try clear c7
       try clear c7b0
       try clear c8
       try clear c8b0
       try clear c8b1
       try clear hx101_0
       try clear hx101_1
       try clear hx101_2
       try clear hx101_3
       try clear hx101_4
       try clear hx101_5
       try clear hx101_6
       try clear hx102_0
       try clear hx102_1
       try clear hx102_2
       try clear hx102_3
       try clear hx102_4
       try clear hx102_5
       try clear hx102_6
       try clear p101
       try clear p102
       try clear p2
       try clear q101
       try clear q102
       obtain ⟨kq, x29_4, rfl, HA, HJ4, ⟨mc4, rfl⟩⟩ := hcut
       cases kq with
       | zero => exact absurd HA.out (by simp [garmentref27_Few.j2])
       | succ kj4 =>
        have H := HA.out; clear HA; simp only [garmentref27_Few.j2] at H
        by_cases c9 : x29_4 = true
        ·subst c9
         have H1 : (some false) = some r := by rw [if_pos rfl] at H; exact H
         clear H; have H := H1; clear H1; obtain rfl := Option.some.inj H
         go_wp2
         go_ret
         exact ⟨by first | rfl | (simp; done) | (simp [*]; done), by repeat (first | exact Drawn0.refl _ | apply Drawn0.step)⟩
        ·replace c9 := Bool.eq_false_iff.mpr c9; subst c9
         have H1 : (garmentref27_Few.l0 kj4 l0 (wrap64 (x3_1 + 1))) = some r := by rw [if_neg (show ¬ (false = true) by decide)] at H; exact H
         clear H; have H := H1; clear H1; have H' := Aside0.mk H; clear H
         go_wp2
         go_roundg kj4
         case measure => have := HK1.out; have := HJ1.out; have := HJ4.out; omega
         case rel => exact ⟨(wrap64 (x3_1 + 1)), (by first | rfl | (simp; done) | (simp [*]; done)), H', ⟨by have := HK1.out; have := HJ1.out; have := HJ4.out; omega⟩, by repeat (first | exact Drawn0.refl _ | apply Drawn0.step)⟩
     ·replace c4 := Bool.eq_false_iff.mpr c4; subst c4
      have H1 : (some (decide ((l0.length : Int) ≤ 30))) = some r := by rw [if_neg (show ¬ (false = true) by decide)] at H; exact H
      clear H; have H := H1; clear H1; obtain rfl := Option.some.inj H
      go_wp2
      go_ret
      exact ⟨by first | rfl | (simp; done) | (simp [*]; done), by repeat (first | exact Drawn0.refl _ | apply Drawn0.step)⟩

end Go.Proofs.YtdblkmnbkpphjaaGreatDoor.P
namespace Go.Proofs.YtdblkmnbkpphjaaGreatDoor.P
open Go.RowKit Go.Proofs.YtdblkmnbkpphjaaGreatDoorW.PrintWords Go.Proofs.YtdblkmnbkpphjaaGreatDoorW.PrintLast Go.Proofs.YtdblkmnbkpphjaaGreatDoorW.PrintMore Go.Proofs.YtdblkmnbkpphjaaGreatDoorW.PrintAuto
attribute [local go_sem] max2_int min2_int max_two min_two max_three min_three max_four min_four   -- for this text's walks alone
set_option linter.unusedVariables false
set_option linter.unusedSimpArgs false

def garmentlaw27_few.f (k : Nat) (a0_0 : ByteArray) (a0_1 : Int) (a0_2 : Int) (a0_3 : Int) (a0_4 : Int) (a0_5 : Int) (l0_6 : List (S46)) : Option (Bool) := (garmentref27_Few.f k (([(⟨a0_0, a0_1, a0_2, (⟨a0_3, a0_4, a0_5⟩ : S23), l0_6⟩ : S26)] : List (S26)))).bind fun t107 => (some t107)
theorem garmentlaw27_few.mono : ∀ a0 a1 a2 a3 a4 a5 a6 k, LeO (garmentlaw27_few.f k a0 a1 a2 a3 a4 a5 a6) (garmentlaw27_few.f (k + 1) a0 a1 a2 a3 a4 a5 a6) := by
 intro a0 a1 a2 a3 a4 a5 a6 k
 unfold garmentlaw27_few.f
 repeat' first
  | (with_reducible exact garmentref27_Few.mono _ _)
  | (with_reducible exact LeO.refl _)
  | (with_reducible exact LeO.none _)
  | (with_reducible refine LeO.ite ?_ ?_)
  | (with_reducible refine LeO.bind ?_ (fun _ => ?_))
  | exact garmentref27_Few.mono _ _
  | exact LeO.none _
  | refine LeO.ite ?_ ?_
  | refine LeO.bind ?_ (fun _ => ?_)
set_option maxHeartbeats 8000000 in
set_option maxRecDepth 100000 in
theorem garmentlaw27_few.calls (k : Nat) (a0_0 : ByteArray) (a0_1 : Int) (a0_2 : Int) (a0_3 : Int) (a0_4 : Int) (a0_5 : Int) (P0_6_ : Nat → Prop) (A0_6 : Option Addr) (c0_6 : Nat) (l0_6 : List (S46)) (r : Bool) (w : World) (hs0_6 : Kd.V k46 46 w w.heap.size (fun k_ => P0_6_ k_) (.slice A0_6 l0_6.length c0_6) l0_6) (h : garmentlaw27_few.f k a0_0 a0_1 a0_2 a0_3 a0_4 a0_5 l0_6 = some r) :
  Calls Tryz.prog 10 #[.agg #[.string a0_0, .int .i64 a0_1, .int .i64 a0_2, .int .i64 a0_3, .int .i64 a0_4, .int .i64 a0_5, .slice A0_6 l0_6.length c0_6]] w fun e w' => e = .returned (.bool r) ∧ Below w.heap.size w w' := by
 have hu26 := Tryz.underlying26; have HO0_6 := Aside0.mk (show Kd.V k46 46 w w.heap.size (fun k_ => (P0_6_ k_ ∨ w.heap.size ≤ k_)) (.slice A0_6 l0_6.length c0_6) l0_6 from Kd.V_mono hs0_6 (fun k_ hk => .inl hk)); have HB := Aside0.mk (Below.refl w.heap.size w); have H : ((garmentref27_Few.f k (([(⟨a0_0, a0_1, a0_2, (⟨a0_3, a0_4, a0_5⟩ : S23), l0_6⟩ : S26)] : List (S26)))).bind fun t107 => (some t107)) = some r := h; clear h; obtain ⟨y104, hy104⟩ : ∃ y_ : List (S26), y_ = (([(⟨a0_0, a0_1, a0_2, (⟨a0_3, a0_4, a0_5⟩ : S23), l0_6⟩ : S26)] : List (S26))) := ⟨_, rfl⟩
 replace H : ((garmentref27_Few.f k y104).bind fun t107 => (some t107)) = some r := by first | (rw [hy104]; with_reducible exact H) | (have H2_ := (Option.bind_some _ _).symm.trans H; rw [hy104]; with_reducible exact H2_) | (have H2_ := (Option.bind_some _ _).symm.trans H; with_reducible exact H2_) | with_reducible exact H | (rw [hy104]; exact H) | exact H
 have Ny104 := Aside0.mk hy104; clear hy104; replace H := Option.bind_eq_some_iff.mp H; obtain ⟨t107, A20, H⟩ := H; replace H : (some t107) = some r := H; have A2 := Aside0.mk A20; clear A20; obtain rfl := Option.some.inj H
 go_enter Tryz.func10, Tryz.ntmps10
 go_wp2_with (first | ((with_reducible refine gate_dst (N := 1) rfl ?_); refine box_event ?hg (N := 1) ?hd (cs := #[.string a0_0, .int .i64 a0_1, .int .i64 a0_2, .int .i64 a0_3, .int .i64 a0_4, .int .i64 a0_5, .slice A0_6 l0_6.length c0_6]) (t := 26) ?hr ?_; (case hd => rfl); (case hg => rfl); (case hr => first | (go_simp; done) | (go_simp; rfl)); intro gb103 hg w3 hbox hb; have BK103 := Aside0.mk (hbox); have GW103 := Aside0.mk ((by rw [hg]; exact (below_size (be HB.out)) : w.heap.size ≤ gb103)); have GE103 := Aside0.mk ((by rw [hg]; exact (below_size (be HB.out)) : w.heap.size ≤ gb103)); replace HO0_6 := Aside0.mk (Kd.V_below (Kd.V_elderB (by (with_reducible repeat (first | apply Kd.V_alloc | apply Kd.V_drewN | apply Kd.V_drew)); exact HO0_6.out) gb103 (Nat.le_of_eq hg.symm)) hb); replace HB := Aside0.mk (below_step (be HB.out) hb); clear hb hbox hg; have hcz4_0 := bc BK103.out 0 (.string a0_0) rfl; have hcz4_1 := bc BK103.out 1 (.int .i64 a0_1) rfl; have hcz4_2 := bc BK103.out 2 (.int .i64 a0_2) rfl; have hcz4_3 := bc BK103.out 3 (.int .i64 a0_3) rfl; have hcz4_4 := bc BK103.out 4 (.int .i64 a0_4) rfl; have hcz4_5 := bc BK103.out 5 (.int .i64 a0_5) rfl; have hcz4_6 := bc BK103.out 6 (.slice A0_6 l0_6.length c0_6) rfl; have hfz4_0 := blk_frozen BK103.out 0; have hfz4_1 := blk_frozen BK103.out 1; have hfz4_2 := blk_frozen BK103.out 2; have hfz4_3 := blk_frozen BK103.out 3; have hfz4_4 := blk_frozen BK103.out 4; have hfz4_5 := blk_frozen BK103.out 5; have hfz4_6 := blk_frozen BK103.out 6) | ((with_reducible refine gate_dst (N := 4) rfl ?_); refine Kd.N_lit k26 _ 26 ?hg (N' := 4) ?hd (xs := ([(⟨a0_0, a0_1, a0_2, (⟨a0_3, a0_4, a0_5⟩ : S23), l0_6⟩ : S26)] : List (S26))) (inner := [.string a0_0, .int .i64 a0_1, .int .i64 a0_2, .int .i64 a0_3, .int .i64 a0_4, .int .i64 a0_5, .slice A0_6 l0_6.length c0_6]) (ok := (fun k_ => (P0_6_ k_ ∨ w.heap.size ≤ k_) ∧ k_ ≠ gb103)) (okp := (fun k_ => (P0_6_ k_ ∨ w.heap.size ≤ k_) ∧ k_ ≠ gb103)) ?hr ?hp (fun _ hk => hk) ((show ∀ k_, w3.heap.size ≤ k_ → (fun k_ => (P0_6_ k_ ∨ w.heap.size ≤ k_) ∧ k_ ≠ gb103) k_ from fun k_ hk => ⟨(.inr (Nat.le_trans (below_size (be HB.out)) hk)), Kd.freshB (g := gb103) (o := .cells #[.string a0_0, .int .i64 a0_1, .int .i64 a0_2, .int .i64 a0_3, .int .i64 a0_4, .int .i64 a0_5, .slice A0_6 l0_6.length c0_6] 26 (0, 0)) (bu BK103.out) k_ hk⟩) _ (Nat.le_refl _)) (Below.refl _ _) (Nat.le_refl _) (by simp) ?_; (case hd => rfl); (case hg => rfl); (case hr => first | (go_simp; done) | (go_simp; rfl)); (case hp => exact (Reps.c7 (show Kd.FK k26 _ _ (⟨a0_0, a0_1, a0_2, (⟨a0_3, a0_4, a0_5⟩ : S23), l0_6⟩ : S26) [.string a0_0, .int .i64 a0_1, .int .i64 a0_2, .int .i64 a0_3, .int .i64 a0_4, .int .i64 a0_5, .slice A0_6 l0_6.length c0_6] from (k26_mkF _ _ (⟨a0_0, a0_1, a0_2, (⟨a0_3, a0_4, a0_5⟩ : S23), l0_6⟩ : S26) (Kd.V_reads' (Kd.V_mono (ok' := (fun k_ => (P0_6_ k_ ∨ w.heap.size ≤ k_) ∧ k_ ≠ gb103)) (HO0_6.out) (fun k_ hk => ⟨hk.1, hk.2⟩))).2.1 (Kd.V_F (Kd.V_mono (ok' := (fun k_ => (P0_6_ k_ ∨ w.heap.size ≤ k_) ∧ k_ ≠ gb103)) (HO0_6.out) (fun k_ hk => ⟨hk.1, hk.2⟩))))) (Reps.none _ _))); intro v105 w5 ho6 hb hg_ hnew_; clear hg_ hnew_; (first | rw [← Ny104.out] at ho6 | (simp only [Int.reduceToNat] at ho6; rw [← Ny104.out] at ho6)); have HO106 := Aside0.mk (Kd.N_lower ho6 (below_size (be HB.out))); replace HO0_6 := Aside0.mk (Kd.V_elder' (by (with_reducible repeat (first | apply Kd.V_alloc | apply Kd.V_drewN | apply Kd.V_drew)); exact HO0_6.out) (Kd.N_base ho6) hb); replace BK103 := Aside0.mk (blk_below (bu BK103.out) hb); replace HB := Aside0.mk (below_step (be HB.out) hb); clear hb ho6; obtain ⟨Ao7, co7, eo7⟩ := Kd.N_slice HO106.out; subst eo7) | ((with_reducible refine gate_callee (f := 14) rfl ?_); refine goesA (some 5) rfl rfl Tryz.func14 (by kernel_rfl) rfl #[.slice Ao7 y104.length co7] rfl ?_; (with_reducible refine (garmentref27_Few.calls k _ _ y104 t107 _ ?side1 ?side2 A2.out).mono ?_); (case side1 => exact cu (Kd.N_reads' HO106.out).2.2); (case side2 => exact (Kd.N_reads' HO106.out).2.1); rintro e w' ⟨rfl, ⟨nd, rfl⟩⟩; refine ⟨_, rfl, ?_⟩))
 go_ret
 exact ⟨by first | rfl | (simp [errW_none, errW_some] <;> rfl) | (simp [*, errW_none, errW_some] <;> rfl), be HB.out⟩

end Go.Proofs.YtdblkmnbkpphjaaGreatDoor.P
namespace Go.Proofs.YtdblkmnbkpphjaaGreatDoor.P
open Go.RowKit Go.Proofs.YtdblkmnbkpphjaaGreatDoorW.PrintWords Go.Proofs.YtdblkmnbkpphjaaGreatDoorW.PrintLast Go.Proofs.YtdblkmnbkpphjaaGreatDoorW.PrintMore Go.Proofs.YtdblkmnbkpphjaaGreatDoorW.PrintAuto
attribute [local go_sem] max2_int min2_int max_two min_two max_three min_three max_four min_four   -- for this text's walks alone
set_option linter.unusedVariables false
set_option linter.unusedSimpArgs false

def roll_letter.f (a0 : Int) : Option (Bool) := if a0 ≥ 65 then (if a0 ≤ 90 then (some true) else (if a0 ≥ 97 then (some (decide (a0 ≤ 122))) else (some false))) else (if a0 ≥ 97 then (some (decide (a0 ≤ 122))) else (some false))
set_option maxHeartbeats 8000000 in
set_option maxRecDepth 100000 in
theorem roll_letter.calls (a0 : Int) (r : Bool) (w : World) (h : roll_letter.f a0 = some r) :
  Calls Tryz.prog 45 #[.int .u8 a0] w fun e w' => e = .returned (.bool r) ∧ Drawn0 w w' := by
 have H : (if a0 ≥ 65 then (if a0 ≤ 90 then (some true) else (if a0 ≥ 97 then (some (decide (a0 ≤ 122))) else (some false))) else (if a0 ≥ 97 then (some (decide (a0 ≤ 122))) else (some false))) = some r := h; clear h
 by_cases c2 : a0 ≥ 65
 ·rw [if_pos c2] at H; have c2b0 : decide (65 ≤ a0) = true := decide_eq_true c2; clear c2
  by_cases c3 : a0 ≤ 90
  ·rw [if_pos c3] at H; have c3b0 : decide (a0 ≤ 90) = true := decide_eq_true c3; clear c3; obtain rfl := Option.some.inj H
   go_enter Tryz.func45, Tryz.ntmps45
   go_wp2
   go_ret
   exact ⟨by first | rfl | (simp; done) | (simp [*]; done), by repeat (first | exact Drawn0.refl _ | apply Drawn0.step)⟩
  ·rw [if_neg c3] at H; have c3b0 : decide (a0 ≤ 90) = false := decide_eq_false c3; clear c3
   by_cases c4 : a0 ≥ 97
   ·rw [if_pos c4] at H; have c4b0 : decide (97 ≤ a0) = true := decide_eq_true c4; clear c4; obtain rfl := Option.some.inj H
    go_enter Tryz.func45, Tryz.ntmps45
    go_wp2
    go_ret
    exact ⟨by first | rfl | (simp; done) | (simp [*]; done), by repeat (first | exact Drawn0.refl _ | apply Drawn0.step)⟩
   ·rw [if_neg c4] at H; have c4b0 : decide (97 ≤ a0) = false := decide_eq_false c4; clear c4; obtain rfl := Option.some.inj H
    go_enter Tryz.func45, Tryz.ntmps45
    go_wp2
    go_ret
    exact ⟨by first | rfl | (simp; done) | (simp [*]; done), by repeat (first | exact Drawn0.refl _ | apply Drawn0.step)⟩
 ·rw [if_neg c2] at H; have c2b0 : decide (65 ≤ a0) = false := decide_eq_false c2; clear c2
  by_cases c5 : a0 ≥ 97
  ·rw [if_pos c5] at H; have c5b0 : decide (97 ≤ a0) = true := decide_eq_true c5; clear c5; obtain rfl := Option.some.inj H
   go_enter Tryz.func45, Tryz.ntmps45
   go_wp2
   go_ret
   exact ⟨by first | rfl | (simp; done) | (simp [*]; done), by repeat (first | exact Drawn0.refl _ | apply Drawn0.step)⟩
  ·rw [if_neg c5] at H; have c5b0 : decide (97 ≤ a0) = false := decide_eq_false c5; clear c5; obtain rfl := Option.some.inj H
   go_enter Tryz.func45, Tryz.ntmps45
   go_wp2
   go_ret
   exact ⟨by first | rfl | (simp; done) | (simp [*]; done), by repeat (first | exact Drawn0.refl _ | apply Drawn0.step)⟩

end Go.Proofs.YtdblkmnbkpphjaaGreatDoor.P
namespace Go.Proofs.YtdblkmnbkpphjaaGreatDoor.P
open Go.RowKit Go.Proofs.YtdblkmnbkpphjaaGreatDoorW.PrintWords Go.Proofs.YtdblkmnbkpphjaaGreatDoorW.PrintLast Go.Proofs.YtdblkmnbkpphjaaGreatDoorW.PrintMore Go.Proofs.YtdblkmnbkpphjaaGreatDoorW.PrintAuto
attribute [local go_sem] max2_int min2_int max_two min_two max_three min_three max_four min_four   -- for this text's walks alone
set_option linter.unusedVariables false
set_option linter.unusedSimpArgs false

def roll_digit.f (a0 : Int) : Option (Bool) := if a0 ≥ 48 then (some (decide (a0 ≤ 57))) else (some false)
set_option maxHeartbeats 8000000 in
set_option maxRecDepth 100000 in
theorem roll_digit.calls (a0 : Int) (r : Bool) (w : World) (h : roll_digit.f a0 = some r) :
  Calls Tryz.prog 46 #[.int .u8 a0] w fun e w' => e = .returned (.bool r) ∧ Drawn0 w w' := by
 have H : (if a0 ≥ 48 then (some (decide (a0 ≤ 57))) else (some false)) = some r := h; clear h
 by_cases c2 : a0 ≥ 48
 ·rw [if_pos c2] at H; have c2b0 : decide (48 ≤ a0) = true := decide_eq_true c2; clear c2; obtain rfl := Option.some.inj H
  go_enter Tryz.func46, Tryz.ntmps46
  go_wp2
  go_ret
  exact ⟨by first | rfl | (simp; done) | (simp [*]; done), by repeat (first | exact Drawn0.refl _ | apply Drawn0.step)⟩
 ·rw [if_neg c2] at H; have c2b0 : decide (48 ≤ a0) = false := decide_eq_false c2; clear c2; obtain rfl := Option.some.inj H
  go_enter Tryz.func46, Tryz.ntmps46
  go_wp2
  go_ret
  exact ⟨by first | rfl | (simp; done) | (simp [*]; done), by repeat (first | exact Drawn0.refl _ | apply Drawn0.step)⟩

end Go.Proofs.YtdblkmnbkpphjaaGreatDoor.P
namespace Go.Proofs.YtdblkmnbkpphjaaGreatDoor.P
open Go.RowKit Go.Proofs.YtdblkmnbkpphjaaGreatDoorW.PrintWords Go.Proofs.YtdblkmnbkpphjaaGreatDoorW.PrintLast Go.Proofs.YtdblkmnbkpphjaaGreatDoorW.PrintMore Go.Proofs.YtdblkmnbkpphjaaGreatDoorW.PrintAuto
attribute [local go_sem] max2_int min2_int max_two min_two max_three min_three max_four min_four   -- for this text's walks alone
set_option linter.unusedVariables false
set_option linter.unusedSimpArgs false

mutual
def roll_named.j0 : Nat → ByteArray → Bool → Option (Bool)
 | 0, _, _ => none
 | k + 1, x0, x20 => if x20 = true then (some false) else (roll_named.l0 k x0 (x0.size : Int) 0)
def roll_named.l0 : Nat → ByteArray → Int → Int → Option (Bool)
 | 0, _, _, _ => none
 | k + 1, x0, x22, x23 => if x23 < x22 then (if 0 ≤ x23 then (if x23 < (x0.size : Int) then ((roll_letter.f (bt x0 x23)).bind fun t108 => (if t108 = true then (roll_named.j2 k x0 x22 x23 false) else ((roll_digit.f (bt x0 x23)).bind fun t109 => (roll_named.j2 k x0 x22 x23 (!t109))))) else (none)) else (none)) else (some true)
def roll_named.j2 : Nat → ByteArray → Int → Int → Bool → Option (Bool)
 | 0, _, _, _, _ => none
 | k + 1, x0, x22, x23, x37 => if x37 = true then (some false) else (roll_named.l0 k x0 x22 (wrap64 (x23 + 1)))
end
def roll_named.f (k : Nat) (a0 : ByteArray) : Option (Bool) := if a0.toList = ([] : List UInt8) then (roll_named.j0 k a0 true) else (if (a0.size : Int) > 8 then (roll_named.j0 k a0 true) else (if 0 < (a0.size : Int) then (if (bt a0 0) < 65 then (roll_named.j0 k a0 true) else (roll_named.j0 k a0 (decide ((bt a0 0) > 90)))) else (none)))
theorem roll_named.mono_l : ∀ k, (∀ y0 y1, LeO (roll_named.j0 k y0 y1) (roll_named.j0 (k + 1) y0 y1)) ∧ (∀ y0 y1 y2, LeO (roll_named.l0 k y0 y1 y2) (roll_named.l0 (k + 1) y0 y1 y2)) ∧ (∀ y0 y1 y2 y3, LeO (roll_named.j2 k y0 y1 y2 y3) (roll_named.j2 (k + 1) y0 y1 y2 y3))
 | 0 => ⟨fun _ _ r h => by simp [roll_named.j0] at h, fun _ _ _ r h => by simp [roll_named.l0] at h, fun _ _ _ _ r h => by simp [roll_named.j2] at h⟩
 | k + 1 => by
  obtain ⟨ih0, ih1, ih2⟩ := roll_named.mono_l k
  refine ⟨?_, ?_, ?_⟩
  ·intro y0 y1
   unfold roll_named.j0
   repeat' first
   | (with_reducible exact ih0 _ _)
   | (with_reducible exact ih1 _ _ _)
   | (with_reducible exact ih2 _ _ _ _)
   | (with_reducible exact LeO.refl _)
   | (with_reducible exact LeO.none _)
   | (with_reducible refine LeO.ite ?_ ?_)
   | (with_reducible refine LeO.bind ?_ (fun _ => ?_))
   | exact ih0 _ _
   | exact ih1 _ _ _
   | exact ih2 _ _ _ _
   | exact LeO.none _
   | refine LeO.ite ?_ ?_
   | refine LeO.bind ?_ (fun _ => ?_)
  ·intro y0 y1 y2
   unfold roll_named.l0
   repeat' first
   | (with_reducible exact ih0 _ _)
   | (with_reducible exact ih1 _ _ _)
   | (with_reducible exact ih2 _ _ _ _)
   | (with_reducible exact LeO.refl _)
   | (with_reducible exact LeO.none _)
   | (with_reducible refine LeO.ite ?_ ?_)
   | (with_reducible refine LeO.bind ?_ (fun _ => ?_))
   | exact ih0 _ _
   | exact ih1 _ _ _
   | exact ih2 _ _ _ _
   | exact LeO.none _
   | refine LeO.ite ?_ ?_
   | refine LeO.bind ?_ (fun _ => ?_)
  ·intro y0 y1 y2 y3
   unfold roll_named.j2
   repeat' first
   | (with_reducible exact ih0 _ _)
   | (with_reducible exact ih1 _ _ _)
   | (with_reducible exact ih2 _ _ _ _)
   | (with_reducible exact LeO.refl _)
   | (with_reducible exact LeO.none _)
   | (with_reducible refine LeO.ite ?_ ?_)
   | (with_reducible refine LeO.bind ?_ (fun _ => ?_))
   | exact ih0 _ _
   | exact ih1 _ _ _
   | exact ih2 _ _ _ _
   | exact LeO.none _
   | refine LeO.ite ?_ ?_
   | refine LeO.bind ?_ (fun _ => ?_)
theorem roll_named.mono : ∀ a0 k, LeO (roll_named.f k a0) (roll_named.f (k + 1) a0) := by
 intro a0 k; obtain ⟨ih0, ih1, ih2⟩ := roll_named.mono_l k
 unfold roll_named.f
 repeat' first
  | (with_reducible exact ih0 _ _)
  | (with_reducible exact ih1 _ _ _)
  | (with_reducible exact ih2 _ _ _ _)
  | (with_reducible exact LeO.refl _)
  | (with_reducible exact LeO.none _)
  | (with_reducible refine LeO.ite ?_ ?_)
  | (with_reducible refine LeO.bind ?_ (fun _ => ?_))
  | exact ih0 _ _
  | exact ih1 _ _ _
  | exact ih2 _ _ _ _
  | exact LeO.none _
  | refine LeO.ite ?_ ?_
  | refine LeO.bind ?_ (fun _ => ?_)
set_option maxHeartbeats 8000000 in
set_option maxRecDepth 100000 in
theorem roll_named.calls (k : Nat) (a0 : ByteArray) (r : Bool) (w : World) (h : roll_named.f k a0 = some r) :
  Calls Tryz.prog 23 #[.string a0] w fun e w' => e = .returned (.bool r) ∧ Drawn0 w w' := by
 have H : (if a0.toList = ([] : List UInt8) then (roll_named.j0 k a0 true) else (if (a0.size : Int) > 8 then (roll_named.j0 k a0 true) else (if 0 < (a0.size : Int) then (if (bt a0 0) < 65 then (roll_named.j0 k a0 true) else (roll_named.j0 k a0 (decide ((bt a0 0) > 90)))) else (none)))) = some r := h; clear h; have HC2 := Aside0.mk H; clear H
 go_enter Tryz.func23, Tryz.ntmps23
 go_upto_region 1 with (fail)
 go_cut [20] (fun v20 wc => ∃ (kq : Nat) (x20_1 : Bool), v20 = .bool x20_1 ∧ Aside0 (roll_named.j0 kq a0 x20_1 = some r) ∧ Aside0 (kq ≤ k) ∧ Drawn0 w wc)
 case first =>
  have H := HC2.out; clear HC2
  by_cases c3 : a0.toList = ([] : List UInt8)
  ·rw [if_pos c3] at H; have c3b0 : (a0.toList == ([] : List UInt8)) = true := beq_iff_eq.mpr c3; have c3b1 : (a0.toList != ([] : List UInt8)) = false := bne_eq_false_iff_eq.mpr c3; clear c3
   (first | rw [c3b0] | (simp only [i64_w, i32_w]; rw [c3b0]) | skip)
   have H' := Aside0.mk H; clear H
   go_wp2
   go_meet
   case rel => exact ⟨_, (true), (by first | rfl | (simp; done) | (simp [*]; done)), H', ⟨by first | omega | exact Nat.le_refl _⟩, by repeat (first | exact Drawn0.refl _ | apply Drawn0.step)⟩
  ·rw [if_neg c3] at H; have c3b0 : (a0.toList == ([] : List UInt8)) = false := beq_eq_false_iff_ne.mpr c3; have c3b1 : (a0.toList != ([] : List UInt8)) = true := bne_iff_ne.mpr c3
   (first | rw [c3b0] | (simp only [i64_w, i32_w]; rw [c3b0]) | skip)
   by_cases c4 : (a0.size : Int) > 8
   ·rw [if_pos c4] at H; have c4b0 : decide (8 < (a0.size : Int)) = true := decide_eq_true c4; have c4b1 : decide (8 < a0.size) = true := decide_eq_true (by omega); clear c4; have H' := Aside0.mk H; clear H
    go_wp2
    go_meet
    case rel => exact ⟨_, (true), (by first | rfl | (simp; done) | (simp [*]; done)), H', ⟨by first | omega | exact Nat.le_refl _⟩, by repeat (first | exact Drawn0.refl _ | apply Drawn0.step)⟩
   ·rw [if_neg c4] at H; have c4b0 : decide (8 < (a0.size : Int)) = false := decide_eq_false c4; have c4b1 : decide (8 < a0.size) = false := decide_eq_false (by omega); clear c4
    by_cases c5 : 0 < (a0.size : Int)
    ·rw [if_pos c5] at H; have c5b0 : decide (0 < (a0.size : Int)) = true := decide_eq_true c5; have c5b1 : decide (0 < a0.size) = true := decide_eq_true (by omega); clear c5
     by_cases c7 : (bt a0 0) < 65
     ·rw [if_pos c7] at H; have c7b0 : decide ((bt a0 0) < 65) = true := decide_eq_true c7; clear c7; have H' := Aside0.mk H; clear H; have p6 : 0 ≤ (0 : Int) := (by omega); have q6 : 0 < a0.size := (by have : (0 : Int) < (a0.size : Int) := oda; omega); have hx6 : ∀ h : 0 < a0.size, ((a0[0]'h).toNat : Int) = bt a0 0 := bt_at a0 0; clear p6; have qi6 : (0 < (a0.size : Int)) = True := eq_true (oda); replace q6 := eq_true q6
      go_wp2
      go_meet
      case rel => exact ⟨_, (true), (by first | rfl | (simp; done) | (simp [*]; done)), H', ⟨by first | omega | exact Nat.le_refl _⟩, by repeat (first | exact Drawn0.refl _ | apply Drawn0.step)⟩
     ·rw [if_neg c7] at H; have c7b0 : decide ((bt a0 0) < 65) = false := decide_eq_false c7; clear c7; have H' := Aside0.mk H; clear H; have p6 : 0 ≤ (0 : Int) := (by omega); have q6 : 0 < a0.size := (by have : (0 : Int) < (a0.size : Int) := oda; omega); have hx6 : ∀ h : 0 < a0.size, ((a0[0]'h).toNat : Int) = bt a0 0 := bt_at a0 0; clear p6; have qi6 : (0 < (a0.size : Int)) = True := eq_true (oda); replace q6 := eq_true q6; have p8 : 0 ≤ (0 : Int) := (by omega); have q8 : 0 < a0.size := (by have : (0 : Int) < (a0.size : Int) := oda; omega); have hx8 : ∀ h : 0 < a0.size, ((a0[0]'h).toNat : Int) = bt a0 0 := bt_at a0 0; clear p8; have qi8 : (0 < (a0.size : Int)) = True := eq_true (oda); replace q8 := eq_true q8
      go_wp2
      go_meet
      case rel => exact ⟨_, (decide ((bt a0 0) > 90)), (by first | rfl | (simp; done) | (simp [*]; done)), H', ⟨by first | omega | exact Nat.le_refl _⟩, by repeat (first | exact Drawn0.refl _ | apply Drawn0.step)⟩
    ·rw [if_neg c5] at H; exact absurd H (by simp)
 case rest =>
  clear HC2
  try clear c2
  try clear p2
  try clear c3
  try clear c3b0
  try clear c3b1
  try clear c4
  try clear c4b0
  try clear c4b1
  try clear c5
  try clear c5b0
  try clear c5b1
  try clear p6
  try clear q6
  try clear hx6
  try clear qi6
  try clear c7
  try clear c7b0
  try clear p8
  try clear q8
  try clear hx8
  try clear qi8
  try clear p6
  try clear p8
  try clear q6
  try clear q8
  obtain ⟨kq, x20_1, rfl, HA, HJ1, ⟨mc1, rfl⟩⟩ := hcut
  cases kq with
  | zero => exact absurd HA.out (by simp [roll_named.j0])
  | succ kj1 =>
   have H := HA.out; clear HA; simp only [roll_named.j0] at H
   by_cases c9 : x20_1 = true
   ·subst c9
    have H1 : (some false) = some r := by rw [if_pos rfl] at H; exact H
    clear H; have H := H1; clear H1; obtain rfl := Option.some.inj H
    go_wp2
    go_ret
    exact ⟨by first | rfl | (simp; done) | (simp [*]; done), by repeat (first | exact Drawn0.refl _ | apply Drawn0.step)⟩
   ·replace c9 := Bool.eq_false_iff.mpr c9; subst c9
    have H1 : (roll_named.l0 kj1 a0 (a0.size : Int) 0) = some r := by rw [if_neg (show ¬ (false = true) by decide)] at H; exact H
    clear H; have H := H1; clear H1; have H' := Aside0.mk H; clear H
    go_wp2
    go_loopg [23] kj1 (fun kq v23 w' => ∃ (x23_2 : Int), v23 = .int .i64 x23_2 ∧ Aside0 (roll_named.l0 kq a0 (a0.size : Int) x23_2 = some r) ∧ Aside0 (kq ≤ kj1) ∧ Drawn0 w w')
    case atStart => exact ⟨(0), (by first | rfl | (simp; done) | (simp [*]; done)), H', ⟨Nat.le_refl _⟩, by repeat (first | exact Drawn0.refl _ | apply Drawn0.step)⟩
    case round =>
     clear H'
     try clear c1
     try clear c2
     try clear p2
     try clear c3
     try clear c3b0
     try clear c3b1
     try clear c4
     try clear c4b0
     try clear c4b1
     try clear c5
     try clear c5b0
     try clear c5b1
     try clear p6
     try clear q6
     try clear hx6
     try clear qi6
     try clear c7
     try clear c7b0
     try clear p8
     try clear q8
     try clear hx8
     try clear qi8
     try clear c9
     try clear p2
     try clear p6
     try clear p8
     try clear q6
     try clear q8
     obtain ⟨x23_2, rfl, HA, HK2, ⟨m2, rfl⟩⟩ := hrel
     cases gk with
     | zero => exact absurd HA.out (by simp [roll_named.l0])
     | succ k2 =>
      have H := HA.out; clear HA; simp only [roll_named.l0] at H
      by_cases c10 : x23_2 < (a0.size : Int)
      ·rw [if_pos c10] at H; have c10b0 : decide (x23_2 < (a0.size : Int)) = true := decide_eq_true c10; clear c10; have HC11 := Aside0.mk H; clear H
       go_upto_region 6 with (fail)
       go_cut [37] (fun v37 wc => ∃ (kq : Nat) (x37_10 : Bool), v37 = .bool x37_10 ∧ Aside0 (roll_named.j2 kq a0 (a0.size : Int) x23_2 x37_10 = some r) ∧ Aside0 (kq ≤ k2) ∧ Drawn0 w wc)
       case first =>
        have H := HC11.out; clear HC11
        by_cases c12 : 0 ≤ x23_2
        ·rw [if_pos c12] at H; have c12b0 : decide (0 ≤ x23_2) = true := decide_eq_true c12; clear c12
         (first | rw [c12b0] | (simp only [i64_w, i32_w]; rw [c12b0]) | skip)
         by_cases c13 : x23_2 < (a0.size : Int)
         ·rw [if_pos c13] at H; have c13b0 : decide (x23_2 < (a0.size : Int)) = true := decide_eq_true c13; clear c13; replace H := Option.bind_eq_some_iff.mp H; obtain ⟨t108, A150, H⟩ := H; replace H : (if t108 = true then (roll_named.j2 k2 a0 (a0.size : Int) x23_2 false) else ((roll_digit.f (bt a0 x23_2)).bind fun t109 => (roll_named.j2 k2 a0 (a0.size : Int) x23_2 (!t109)))) = some r := H; have A15 := Aside0.mk A150; clear A150
          by_cases c16 : t108 = true
          ·subst c16
           have H1 : (roll_named.j2 k2 a0 (a0.size : Int) x23_2 false) = some r := by rw [if_pos rfl] at H; exact H
           clear H; have H := H1; clear H1; have H' := Aside0.mk H; clear H; have p14 : 0 ≤ (x23_2 : Int) := oda; have q14 : x23_2 < (a0.size : Int) := oda; have hx14 := bt_at a0 x23_2; replace p14 := eq_true p14; replace q14 := eq_true q14
           go_wp2_with (first | ((with_reducible refine gate_callee (f := 45) rfl ?_); refine goesA (some 29) rfl rfl Tryz.func45 (by kernel_rfl) rfl #[.int .u8 (bt a0 x23_2)] rfl ?_; (with_reducible refine (roll_letter.calls (bt a0 x23_2) true _ A15.out).mono ?_); rintro e w' ⟨rfl, ⟨nd, rfl⟩⟩; refine ⟨_, rfl, ?_⟩))
           go_meet
           case rel => exact ⟨_, (false), (by first | rfl | (simp; done) | (simp [*]; done)), H', ⟨by have := HJ1.out; have := HK2.out; first | omega | exact Nat.le_refl _⟩, by repeat (first | exact Drawn0.refl _ | apply Drawn0.step)⟩
          ·replace c16 := Bool.eq_false_iff.mpr c16; subst c16
           have H1 : ((roll_digit.f (bt a0 x23_2)).bind fun t109 => (roll_named.j2 k2 a0 (a0.size : Int) x23_2 (!t109))) = some r := by rw [if_neg (show ¬ (false = true) by decide)] at H; exact H
           clear H; have H := H1; clear H1; replace H := Option.bind_eq_some_iff.mp H; obtain ⟨t109, A180, H⟩ := H; replace H : (roll_named.j2 k2 a0 (a0.size : Int) x23_2 (!t109)) = some r := H; have A18 := Aside0.mk A180; clear A180; have H' := Aside0.mk H; clear H; have p14 : 0 ≤ (x23_2 : Int) := oda; have q14 : x23_2 < (a0.size : Int) := oda; have hx14 := bt_at a0 x23_2; replace p14 := eq_true p14; replace q14 := eq_true q14
           go_wp2_with (first | ((with_reducible refine gate_callee (f := 45) rfl ?_); refine goesA (some 29) rfl rfl Tryz.func45 (by kernel_rfl) rfl #[.int .u8 (bt a0 x23_2)] rfl ?_; (with_reducible refine (roll_letter.calls (bt a0 x23_2) false _ A15.out).mono ?_); rintro e w' ⟨rfl, ⟨nd, rfl⟩⟩; refine ⟨_, rfl, ?_⟩; have p17 : 0 ≤ (x23_2 : Int) := oda; have q17 : x23_2 < (a0.size : Int) := oda; have hx17 := bt_at a0 x23_2; replace p17 := eq_true p17; replace q17 := eq_true q17) | (go_at_call 46; (with_reducible refine (roll_digit.calls (bt a0 x23_2) t109 _ A18.out).mono ?_); rintro e w' ⟨rfl, ⟨nd, rfl⟩⟩))
           go_meet
           case rel => exact ⟨_, (!t109), (by first | rfl | (simp; done) | (simp [*]; done)), H', ⟨by have := HJ1.out; have := HK2.out; first | omega | exact Nat.le_refl _⟩, by repeat (first | exact Drawn0.refl _ | apply Drawn0.step)⟩
         ·rw [if_neg c13] at H; exact absurd H (by simp)
        ·rw [if_neg c12] at H; exact absurd H (by simp)
       case rest =>
        clear HC11
        try clear c1
        try clear p1
        try clear q1
        try clear hx1
        try clear c2
        try clear p2
        try clear c3
        try clear c3b0
        try clear c3b1
        try clear c4
        try clear c4b0
        try clear c4b1
        try clear c5
        try clear c5b0
        try clear c5b1
        try clear p6
        try clear q6
        try clear hx6
        try clear qi6
        try clear c7
        try clear c7b0
        try clear p8
        try clear q8
        try clear hx8
        try clear qi8
        try clear c9
        try clear c10
        try clear c10b0
        try clear c12
        try clear c12b0
        try clear c13
        try clear c13b0
        try clear p14
        try clear q14
        try clear hx14
        try clear c16
        try clear p17
        try clear q17
        try clear hx17
        try clear p14
        try clear p17
        try clear p2
        try clear p6
        try clear p8
        try clear q14
        try clear q17
        try clear q6
        try clear q8
        obtain ⟨kq, x37_10, rfl, HA, HJ10, ⟨mc10, rfl⟩⟩ := hcut
        cases kq with
        | zero => exact absurd HA.out (by simp [roll_named.j2])
        | succ kj10 =>
         have H := HA.out; clear HA; simp only [roll_named.j2] at H
         by_cases c19 : x37_10 = true
         ·subst c19
          have H1 : (some false) = some r := by rw [if_pos rfl] at H; exact H
          clear H; have H := H1; clear H1; obtain rfl := Option.some.inj H
          go_wp2
          go_ret
          exact ⟨by first | rfl | (simp; done) | (simp [*]; done), by repeat (first | exact Drawn0.refl _ | apply Drawn0.step)⟩
         ·replace c19 := Bool.eq_false_iff.mpr c19; subst c19
          have H1 : (roll_named.l0 kj10 a0 (a0.size : Int) (wrap64 (x23_2 + 1))) = some r := by rw [if_neg (show ¬ (false = true) by decide)] at H; exact H
          clear H; have H := H1; clear H1; have H' := Aside0.mk H; clear H
          go_wp2
          go_roundg kj10
          case measure => have := HJ1.out; have := HK2.out; have := HJ10.out; omega
          case rel => exact ⟨(wrap64 (x23_2 + 1)), (by first | rfl | (simp; done) | (simp [*]; done)), H', ⟨by have := HJ1.out; have := HK2.out; have := HJ10.out; omega⟩, by repeat (first | exact Drawn0.refl _ | apply Drawn0.step)⟩
      ·rw [if_neg c10] at H; have c10b0 : decide (x23_2 < (a0.size : Int)) = false := decide_eq_false c10; clear c10; obtain rfl := Option.some.inj H
       go_wp2
       go_ret
       exact ⟨by first | rfl | (simp; done) | (simp [*]; done), by repeat (first | exact Drawn0.refl _ | apply Drawn0.step)⟩

end Go.Proofs.YtdblkmnbkpphjaaGreatDoor.P
namespace Go.Proofs.YtdblkmnbkpphjaaGreatDoor.P
open Go.RowKit Go.Proofs.YtdblkmnbkpphjaaGreatDoorW.PrintWords Go.Proofs.YtdblkmnbkpphjaaGreatDoorW.PrintLast Go.Proofs.YtdblkmnbkpphjaaGreatDoorW.PrintMore Go.Proofs.YtdblkmnbkpphjaaGreatDoorW.PrintAuto
attribute [local go_sem] max2_int min2_int max_two min_two max_three min_three max_four min_four   -- for this text's walks alone
set_option linter.unusedVariables false
set_option linter.unusedSimpArgs false

def roll_size.f (a0 : Int) : Option (Bool) := if a0 ≥ 1 then (some (decide (a0 ≤ 1048576))) else (some false)
set_option maxHeartbeats 8000000 in
set_option maxRecDepth 100000 in
theorem roll_size.calls (a0 : Int) (r : Bool) (w : World) (h : roll_size.f a0 = some r) :
  Calls Tryz.prog 24 #[.int .i64 a0] w fun e w' => e = .returned (.bool r) ∧ Drawn0 w w' := by
 have H : (if a0 ≥ 1 then (some (decide (a0 ≤ 1048576))) else (some false)) = some r := h; clear h
 by_cases c2 : a0 ≥ 1
 ·rw [if_pos c2] at H; have c2b0 : decide (1 ≤ a0) = true := decide_eq_true c2; clear c2; obtain rfl := Option.some.inj H
  go_enter Tryz.func24, Tryz.ntmps24
  go_wp2
  go_ret
  exact ⟨by first | rfl | (simp; done) | (simp [*]; done), by repeat (first | exact Drawn0.refl _ | apply Drawn0.step)⟩
 ·rw [if_neg c2] at H; have c2b0 : decide (1 ≤ a0) = false := decide_eq_false c2; clear c2; obtain rfl := Option.some.inj H
  go_enter Tryz.func24, Tryz.ntmps24
  go_wp2
  go_ret
  exact ⟨by first | rfl | (simp; done) | (simp [*]; done), by repeat (first | exact Drawn0.refl _ | apply Drawn0.step)⟩

end Go.Proofs.YtdblkmnbkpphjaaGreatDoor.P
namespace Go.Proofs.YtdblkmnbkpphjaaGreatDoor.P
open Go.RowKit Go.Proofs.YtdblkmnbkpphjaaGreatDoorW.PrintWords Go.Proofs.YtdblkmnbkpphjaaGreatDoorW.PrintLast Go.Proofs.YtdblkmnbkpphjaaGreatDoorW.PrintMore Go.Proofs.YtdblkmnbkpphjaaGreatDoorW.PrintAuto
attribute [local go_sem] max2_int min2_int max_two min_two max_three min_three max_four min_four   -- for this text's walks alone
set_option linter.unusedVariables false
set_option linter.unusedSimpArgs false

def roll_tone.f (a0 : Int) : Option (Bool) := if a0 ≥ (-1000) then (some (decide (a0 ≤ 1000))) else (some false)
set_option maxHeartbeats 8000000 in
set_option maxRecDepth 100000 in
theorem roll_tone.calls (a0 : Int) (r : Bool) (w : World) (h : roll_tone.f a0 = some r) :
  Calls Tryz.prog 25 #[.int .i64 a0] w fun e w' => e = .returned (.bool r) ∧ Drawn0 w w' := by
 have H : (if a0 ≥ (-1000) then (some (decide (a0 ≤ 1000))) else (some false)) = some r := h; clear h
 by_cases c2 : a0 ≥ (-1000)
 ·rw [if_pos c2] at H; have c2b0 : decide ((-1000) ≤ a0) = true := decide_eq_true c2; clear c2; obtain rfl := Option.some.inj H
  go_enter Tryz.func25, Tryz.ntmps25
  go_wp2
  go_ret
  exact ⟨by first | rfl | (simp; done) | (simp [*]; done), by repeat (first | exact Drawn0.refl _ | apply Drawn0.step)⟩
 ·rw [if_neg c2] at H; have c2b0 : decide ((-1000) ≤ a0) = false := decide_eq_false c2; clear c2; obtain rfl := Option.some.inj H
  go_enter Tryz.func25, Tryz.ntmps25
  go_wp2
  go_ret
  exact ⟨by first | rfl | (simp; done) | (simp [*]; done), by repeat (first | exact Drawn0.refl _ | apply Drawn0.step)⟩

end Go.Proofs.YtdblkmnbkpphjaaGreatDoor.P
namespace Go.Proofs.YtdblkmnbkpphjaaGreatDoor.P
open Go.RowKit Go.Proofs.YtdblkmnbkpphjaaGreatDoorW.PrintWords Go.Proofs.YtdblkmnbkpphjaaGreatDoorW.PrintLast Go.Proofs.YtdblkmnbkpphjaaGreatDoorW.PrintMore Go.Proofs.YtdblkmnbkpphjaaGreatDoorW.PrintAuto
attribute [local go_sem] max2_int min2_int max_two min_two max_three min_three max_four min_four   -- for this text's walks alone
set_option linter.unusedVariables false
set_option linter.unusedSimpArgs false

def roll_within.f (a0 : Int) (a1 : Int) (a2 : Int) : Option (Bool) := if a1 ≥ 1 then (if a1 ≤ a2 then (if a0 ≥ 0 then (some (decide (a0 ≤ (wrap64 (a2 - a1))))) else (some false)) else (some false)) else (some false)
set_option maxHeartbeats 8000000 in
set_option maxRecDepth 100000 in
theorem roll_within.calls (a0 : Int) (a1 : Int) (a2 : Int) (r : Bool) (w : World) (h : roll_within.f a0 a1 a2 = some r) :
  Calls Tryz.prog 26 #[.int .i64 a0, .int .i64 a1, .int .i64 a2] w fun e w' => e = .returned (.bool r) ∧ Drawn0 w w' := by
 have H : (if a1 ≥ 1 then (if a1 ≤ a2 then (if a0 ≥ 0 then (some (decide (a0 ≤ (wrap64 (a2 - a1))))) else (some false)) else (some false)) else (some false)) = some r := h; clear h
 by_cases c4 : a1 ≥ 1
 ·rw [if_pos c4] at H; have c4b0 : decide (1 ≤ a1) = true := decide_eq_true c4; clear c4
  by_cases c5 : a1 ≤ a2
  ·rw [if_pos c5] at H; have c5b0 : decide (a1 ≤ a2) = true := decide_eq_true c5; clear c5
   by_cases c6 : a0 ≥ 0
   ·rw [if_pos c6] at H; have c6b0 : decide (0 ≤ a0) = true := decide_eq_true c6; clear c6; obtain rfl := Option.some.inj H
    go_enter Tryz.func26, Tryz.ntmps26
    go_wp2
    go_ret
    exact ⟨by first | rfl | (simp; done) | (simp [*]; done), by repeat (first | exact Drawn0.refl _ | apply Drawn0.step)⟩
   ·rw [if_neg c6] at H; have c6b0 : decide (0 ≤ a0) = false := decide_eq_false c6; clear c6; obtain rfl := Option.some.inj H
    go_enter Tryz.func26, Tryz.ntmps26
    go_wp2
    go_ret
    exact ⟨by first | rfl | (simp; done) | (simp [*]; done), by repeat (first | exact Drawn0.refl _ | apply Drawn0.step)⟩
  ·rw [if_neg c5] at H; have c5b0 : decide (a1 ≤ a2) = false := decide_eq_false c5; clear c5; obtain rfl := Option.some.inj H
   go_enter Tryz.func26, Tryz.ntmps26
   go_wp2
   go_ret
   exact ⟨by first | rfl | (simp; done) | (simp [*]; done), by repeat (first | exact Drawn0.refl _ | apply Drawn0.step)⟩
 ·rw [if_neg c4] at H; have c4b0 : decide (1 ≤ a1) = false := decide_eq_false c4; clear c4; obtain rfl := Option.some.inj H
  go_enter Tryz.func26, Tryz.ntmps26
  go_wp2
  go_ret
  exact ⟨by first | rfl | (simp; done) | (simp [*]; done), by repeat (first | exact Drawn0.refl _ | apply Drawn0.step)⟩

end Go.Proofs.YtdblkmnbkpphjaaGreatDoor.P
namespace Go.Proofs.YtdblkmnbkpphjaaGreatDoor.P
open Go.RowKit Go.Proofs.YtdblkmnbkpphjaaGreatDoorW.PrintWords Go.Proofs.YtdblkmnbkpphjaaGreatDoorW.PrintLast Go.Proofs.YtdblkmnbkpphjaaGreatDoorW.PrintMore Go.Proofs.YtdblkmnbkpphjaaGreatDoorW.PrintAuto
attribute [local go_sem] max2_int min2_int max_two min_two max_three min_three max_four min_four   -- for this text's walks alone
set_option linter.unusedVariables false
set_option linter.unusedSimpArgs false

mutual
def roll_Check.j0 : Nat → Bool → ByteArray → Int → Int → Int → Int → Int → List (S46) → Option (Int)
 | 0, _, _, _, _, _, _, _, _ => none
 | k + 1, x10, x111000, x111001, x111002, x111003, x111004, x111005, x111006 => if x10 = true then (some 3) else (if (x111006.length : Int) > 20 then (some 5) else (roll_Check.l0 k x111006 (x111006.length : Int) 0 x111000 x111001 x111002 x111003 x111004 x111005 x111006))
def roll_Check.l0 : Nat → List (S46) → Int → Int → ByteArray → Int → Int → Int → Int → Int → List (S46) → Option (Int)
 | 0, _, _, _, _, _, _, _, _, _, _ => none
 | k + 1, x48, x49, x50, x111000, x111001, x111002, x111003, x111004, x111005, x111006 => if x50 < x49 then (if 0 ≤ x50 then (if x50 < (x48.length : Int) then ((roll_within.f ((rd_T46 x48 x50).f0) ((rd_T46 x48 x50).f2) x111002).bind fun t119 => (if t119 = true then ((roll_within.f ((rd_T46 x48 x50).f1) ((rd_T46 x48 x50).f3) x111001).bind fun t120 => (roll_Check.j2 k x48 x49 x50 (!t120) x111000 x111001 x111002 x111003 x111004 x111005 x111006)) else (roll_Check.j2 k x48 x49 x50 true x111000 x111001 x111002 x111003 x111004 x111005 x111006))) else (none)) else (none)) else (some 0)
def roll_Check.j2 : Nat → List (S46) → Int → Int → Bool → ByteArray → Int → Int → Int → Int → Int → List (S46) → Option (Int)
 | 0, _, _, _, _, _, _, _, _, _, _, _ => none
 | k + 1, x48, x49, x50, x71, x111000, x111001, x111002, x111003, x111004, x111005, x111006 => if x71 = true then (some 3) else (roll_Check.l0 k x48 x49 (wrap64 (x50 + 1)) x111000 x111001 x111002 x111003 x111004 x111005 x111006)
end
def roll_Check.f (k : Nat) (a0_0 : ByteArray) (a0_1 : Int) (a0_2 : Int) (a0_3 : Int) (a0_4 : Int) (a0_5 : Int) (l0_6 : List (S46)) : Option (Int) := (roll_named.f k a0_0).bind fun t111 => (if t111 = true then ((roll_size.f a0_2).bind fun t112 => (if t112 = true then ((roll_size.f a0_1).bind fun t113 => (if t113 = true then ((roll_tone.f a0_3).bind fun t114 => (if t114 = true then ((roll_tone.f a0_4).bind fun t115 => (if t115 = true then ((roll_tone.f a0_5).bind fun t116 => (roll_Check.j0 k (!t116) a0_0 a0_1 a0_2 a0_3 a0_4 a0_5 l0_6)) else (roll_Check.j0 k true a0_0 a0_1 a0_2 a0_3 a0_4 a0_5 l0_6))) else (roll_Check.j0 k true a0_0 a0_1 a0_2 a0_3 a0_4 a0_5 l0_6))) else (roll_Check.j0 k true a0_0 a0_1 a0_2 a0_3 a0_4 a0_5 l0_6))) else (roll_Check.j0 k true a0_0 a0_1 a0_2 a0_3 a0_4 a0_5 l0_6))) else (some 1))
theorem roll_Check.mono_l : ∀ k, (∀ y0 y1 y2 y3 y4 y5 y6 y7, LeO (roll_Check.j0 k y0 y1 y2 y3 y4 y5 y6 y7) (roll_Check.j0 (k + 1) y0 y1 y2 y3 y4 y5 y6 y7)) ∧ (∀ y0 y1 y2 y3 y4 y5 y6 y7 y8 y9, LeO (roll_Check.l0 k y0 y1 y2 y3 y4 y5 y6 y7 y8 y9) (roll_Check.l0 (k + 1) y0 y1 y2 y3 y4 y5 y6 y7 y8 y9)) ∧ (∀ y0 y1 y2 y3 y4 y5 y6 y7 y8 y9 y10, LeO (roll_Check.j2 k y0 y1 y2 y3 y4 y5 y6 y7 y8 y9 y10) (roll_Check.j2 (k + 1) y0 y1 y2 y3 y4 y5 y6 y7 y8 y9 y10))
 | 0 => ⟨fun _ _ _ _ _ _ _ _ r h => by simp [roll_Check.j0] at h, fun _ _ _ _ _ _ _ _ _ _ r h => by simp [roll_Check.l0] at h, fun _ _ _ _ _ _ _ _ _ _ _ r h => by simp [roll_Check.j2] at h⟩
 | k + 1 => by
  obtain ⟨ih0, ih1, ih2⟩ := roll_Check.mono_l k
  refine ⟨?_, ?_, ?_⟩
  ·intro y0 y1 y2 y3 y4 y5 y6 y7
   unfold roll_Check.j0
   repeat' first
   | (with_reducible exact ih0 _ _ _ _ _ _ _ _)
   | (with_reducible exact ih1 _ _ _ _ _ _ _ _ _ _)
   | (with_reducible exact ih2 _ _ _ _ _ _ _ _ _ _ _)
   | (with_reducible exact roll_named.mono _ _)
   | (with_reducible exact LeO.refl _)
   | (with_reducible exact LeO.none _)
   | (with_reducible refine LeO.ite ?_ ?_)
   | (with_reducible refine LeO.bind ?_ (fun _ => ?_))
   | exact ih0 _ _ _ _ _ _ _ _
   | exact ih1 _ _ _ _ _ _ _ _ _ _
   | exact ih2 _ _ _ _ _ _ _ _ _ _ _
   | exact roll_named.mono _ _
   | exact LeO.none _
   | refine LeO.ite ?_ ?_
   | refine LeO.bind ?_ (fun _ => ?_)
  ·intro y0 y1 y2 y3 y4 y5 y6 y7 y8 y9
   unfold roll_Check.l0
   repeat' first
   | (with_reducible exact ih0 _ _ _ _ _ _ _ _)
   | (with_reducible exact ih1 _ _ _ _ _ _ _ _ _ _)
   | (with_reducible exact ih2 _ _ _ _ _ _ _ _ _ _ _)
   | (with_reducible exact roll_named.mono _ _)
   | (with_reducible exact LeO.refl _)
   | (with_reducible exact LeO.none _)
   | (with_reducible refine LeO.ite ?_ ?_)
   | (with_reducible refine LeO.bind ?_ (fun _ => ?_))
   | exact ih0 _ _ _ _ _ _ _ _
   | exact ih1 _ _ _ _ _ _ _ _ _ _
   | exact ih2 _ _ _ _ _ _ _ _ _ _ _
   | exact roll_named.mono _ _
   | exact LeO.none _
   | refine LeO.ite ?_ ?_
   | refine LeO.bind ?_ (fun _ => ?_)
  ·intro y0 y1 y2 y3 y4 y5 y6 y7 y8 y9 y10
   unfold roll_Check.j2
   repeat' first
   | (with_reducible exact ih0 _ _ _ _ _ _ _ _)
   | (with_reducible exact ih1 _ _ _ _ _ _ _ _ _ _)
   | (with_reducible exact ih2 _ _ _ _ _ _ _ _ _ _ _)
   | (with_reducible exact roll_named.mono _ _)
   | (with_reducible exact LeO.refl _)
   | (with_reducible exact LeO.none _)
   | (with_reducible refine LeO.ite ?_ ?_)
   | (with_reducible refine LeO.bind ?_ (fun _ => ?_))
   | exact ih0 _ _ _ _ _ _ _ _
   | exact ih1 _ _ _ _ _ _ _ _ _ _
   | exact ih2 _ _ _ _ _ _ _ _ _ _ _
   | exact roll_named.mono _ _
   | exact LeO.none _
   | refine LeO.ite ?_ ?_
   | refine LeO.bind ?_ (fun _ => ?_)
theorem roll_Check.mono : ∀ a0 a1 a2 a3 a4 a5 a6 k, LeO (roll_Check.f k a0 a1 a2 a3 a4 a5 a6) (roll_Check.f (k + 1) a0 a1 a2 a3 a4 a5 a6) := by
 intro a0 a1 a2 a3 a4 a5 a6 k; obtain ⟨ih0, ih1, ih2⟩ := roll_Check.mono_l k
 unfold roll_Check.f
 repeat' first
  | (with_reducible exact ih0 _ _ _ _ _ _ _ _)
  | (with_reducible exact ih1 _ _ _ _ _ _ _ _ _ _)
  | (with_reducible exact ih2 _ _ _ _ _ _ _ _ _ _ _)
  | (with_reducible exact roll_named.mono _ _)
  | (with_reducible exact LeO.refl _)
  | (with_reducible exact LeO.none _)
  | (with_reducible refine LeO.ite ?_ ?_)
  | (with_reducible refine LeO.bind ?_ (fun _ => ?_))
  | exact ih0 _ _ _ _ _ _ _ _
  | exact ih1 _ _ _ _ _ _ _ _ _ _
  | exact ih2 _ _ _ _ _ _ _ _ _ _ _
  | exact roll_named.mono _ _
  | exact LeO.none _
  | refine LeO.ite ?_ ?_
  | refine LeO.bind ?_ (fun _ => ?_)
set_option maxHeartbeats 8000000 in
set_option maxRecDepth 100000 in
theorem roll_Check.calls (k : Nat) (a0_0 : ByteArray) (a0_1 : Int) (a0_2 : Int) (a0_3 : Int) (a0_4 : Int) (a0_5 : Int) (A0_6 : Option Addr) (c0_6 : Nat) (l0_6 : List (S46)) (r : Int) (w : World) (hr0_6 : Kd.C k46 w A0_6 l0_6.length l0_6) (hc0_6 : l0_6.length ≤ c0_6) (h : roll_Check.f k a0_0 a0_1 a0_2 a0_3 a0_4 a0_5 l0_6 = some r) :
  Calls Tryz.prog 11 #[.agg #[.string a0_0, .int .i64 a0_1, .int .i64 a0_2, .int .i64 a0_3, .int .i64 a0_4, .int .i64 a0_5, .slice A0_6 l0_6.length c0_6]] w fun e w' => e = .returned (.int .i64 r) ∧ Below w.heap.size w w' := by
 have hu26 := Tryz.underlying26; have hu46 := Tryz.underlying46; have HR0_6 := Aside0.mk hr0_6; have HC0_6 := Aside0.mk hc0_6; clear hr0_6 hc0_6; have HB := Aside0.mk (Below.refl w.heap.size w); have H : ((roll_named.f k a0_0).bind fun t111 => (if t111 = true then ((roll_size.f a0_2).bind fun t112 => (if t112 = true then ((roll_size.f a0_1).bind fun t113 => (if t113 = true then ((roll_tone.f a0_3).bind fun t114 => (if t114 = true then ((roll_tone.f a0_4).bind fun t115 => (if t115 = true then ((roll_tone.f a0_5).bind fun t116 => (roll_Check.j0 k (!t116) a0_0 a0_1 a0_2 a0_3 a0_4 a0_5 l0_6)) else (roll_Check.j0 k true a0_0 a0_1 a0_2 a0_3 a0_4 a0_5 l0_6))) else (roll_Check.j0 k true a0_0 a0_1 a0_2 a0_3 a0_4 a0_5 l0_6))) else (roll_Check.j0 k true a0_0 a0_1 a0_2 a0_3 a0_4 a0_5 l0_6))) else (roll_Check.j0 k true a0_0 a0_1 a0_2 a0_3 a0_4 a0_5 l0_6))) else (some 1))) = some r := h; clear h; replace H := Option.bind_eq_some_iff.mp H; obtain ⟨t111, A20, H⟩ := H; replace H : (if t111 = true then ((roll_size.f a0_2).bind fun t112 => (if t112 = true then ((roll_size.f a0_1).bind fun t113 => (if t113 = true then ((roll_tone.f a0_3).bind fun t114 => (if t114 = true then ((roll_tone.f a0_4).bind fun t115 => (if t115 = true then ((roll_tone.f a0_5).bind fun t116 => (roll_Check.j0 k (!t116) a0_0 a0_1 a0_2 a0_3 a0_4 a0_5 l0_6)) else (roll_Check.j0 k true a0_0 a0_1 a0_2 a0_3 a0_4 a0_5 l0_6))) else (roll_Check.j0 k true a0_0 a0_1 a0_2 a0_3 a0_4 a0_5 l0_6))) else (roll_Check.j0 k true a0_0 a0_1 a0_2 a0_3 a0_4 a0_5 l0_6))) else (roll_Check.j0 k true a0_0 a0_1 a0_2 a0_3 a0_4 a0_5 l0_6))) else (some 1)) = some r := H; have A2 := Aside0.mk A20; clear A20
 by_cases c3 : t111 = true
 ·subst c3
  have H1 : ((roll_size.f a0_2).bind fun t112 => (if t112 = true then ((roll_size.f a0_1).bind fun t113 => (if t113 = true then ((roll_tone.f a0_3).bind fun t114 => (if t114 = true then ((roll_tone.f a0_4).bind fun t115 => (if t115 = true then ((roll_tone.f a0_5).bind fun t116 => (roll_Check.j0 k (!t116) a0_0 a0_1 a0_2 a0_3 a0_4 a0_5 l0_6)) else (roll_Check.j0 k true a0_0 a0_1 a0_2 a0_3 a0_4 a0_5 l0_6))) else (roll_Check.j0 k true a0_0 a0_1 a0_2 a0_3 a0_4 a0_5 l0_6))) else (roll_Check.j0 k true a0_0 a0_1 a0_2 a0_3 a0_4 a0_5 l0_6))) else (roll_Check.j0 k true a0_0 a0_1 a0_2 a0_3 a0_4 a0_5 l0_6))) = some r := by rw [if_pos rfl] at H; exact H
  clear H; have H := H1; clear H1; have HC4 := Aside0.mk H; clear H
  go_enter Tryz.func11, Tryz.ntmps11
  go_upto_region 3 with (first | ((with_reducible refine gate_dst (N := 1) rfl ?_); refine box_event ?hg (N := 1) ?hd (cs := #[.string a0_0, .int .i64 a0_1, .int .i64 a0_2, .int .i64 a0_3, .int .i64 a0_4, .int .i64 a0_5, .slice A0_6 l0_6.length c0_6]) (t := 26) ?hr ?_; (case hd => rfl); (case hg => rfl); (case hr => first | (go_simp; done) | (go_simp; rfl)); intro gb110 hg w5 hbox hb; have BK110 := Aside0.mk (hbox); have GW110 := Aside0.mk ((by rw [hg]; exact (below_size (be HB.out)) : w.heap.size ≤ gb110)); have GE110 := Aside0.mk ((by rw [hg]; exact (below_size (be HB.out)) : w.heap.size ≤ gb110)); replace HB := Aside0.mk (below_step (be HB.out) hb); clear hb hbox hg; have hcz6_0 := bc BK110.out 0 (.string a0_0) rfl; have hcz6_1 := bc BK110.out 1 (.int .i64 a0_1) rfl; have hcz6_2 := bc BK110.out 2 (.int .i64 a0_2) rfl; have hcz6_3 := bc BK110.out 3 (.int .i64 a0_3) rfl; have hcz6_4 := bc BK110.out 4 (.int .i64 a0_4) rfl; have hcz6_5 := bc BK110.out 5 (.int .i64 a0_5) rfl; have hcz6_6 := bc BK110.out 6 (.slice A0_6 l0_6.length c0_6) rfl; have hfz6_0 := blk_frozen BK110.out 0; have hfz6_1 := blk_frozen BK110.out 1; have hfz6_2 := blk_frozen BK110.out 2; have hfz6_3 := blk_frozen BK110.out 3; have hfz6_4 := blk_frozen BK110.out 4; have hfz6_5 := blk_frozen BK110.out 5; have hfz6_6 := blk_frozen BK110.out 6) | ((with_reducible refine gate_callee (f := 23) rfl ?_); refine goesA (some 8) rfl rfl Tryz.func23 (by kernel_rfl) rfl #[.string a0_0] rfl ?_; (with_reducible refine (roll_named.calls k a0_0 true _ A2.out).mono ?_); rintro e w' ⟨rfl, ⟨nd, rfl⟩⟩; refine ⟨_, rfl, ?_⟩))
  (try simp only [Act.put, List.setIfInBounds_toArray, List.set_cons_zero, List.set_cons_succ])
  go_cut [10] (fun v10 wc => ∃ (kq : Nat) (x10_3 : Bool), v10 = .bool x10_3 ∧ Aside0 (roll_Check.j0 kq x10_3 a0_0 a0_1 a0_2 a0_3 a0_4 a0_5 l0_6 = some r) ∧ Aside0 (kq ≤ k) ∧ Aside0 (wc.heap[gb110]? = some (.cells #[.string a0_0, .int .i64 a0_1, .int .i64 a0_2, .int .i64 a0_3, .int .i64 a0_4, .int .i64 a0_5, (.slice A0_6 l0_6.length c0_6)] 26 (0, 0))) ∧ Aside0 (Below w.heap.size w wc))
  case first =>
   have H := HC4.out; clear HC4; replace H := Option.bind_eq_some_iff.mp H; obtain ⟨t112, A70, H⟩ := H; replace H : (if t112 = true then ((roll_size.f a0_1).bind fun t113 => (if t113 = true then ((roll_tone.f a0_3).bind fun t114 => (if t114 = true then ((roll_tone.f a0_4).bind fun t115 => (if t115 = true then ((roll_tone.f a0_5).bind fun t116 => (roll_Check.j0 k (!t116) a0_0 a0_1 a0_2 a0_3 a0_4 a0_5 l0_6)) else (roll_Check.j0 k true a0_0 a0_1 a0_2 a0_3 a0_4 a0_5 l0_6))) else (roll_Check.j0 k true a0_0 a0_1 a0_2 a0_3 a0_4 a0_5 l0_6))) else (roll_Check.j0 k true a0_0 a0_1 a0_2 a0_3 a0_4 a0_5 l0_6))) else (roll_Check.j0 k true a0_0 a0_1 a0_2 a0_3 a0_4 a0_5 l0_6)) = some r := H; have A7 := Aside0.mk A70; clear A70
   by_cases c8 : t112 = true
   ·subst c8
    have H1 : ((roll_size.f a0_1).bind fun t113 => (if t113 = true then ((roll_tone.f a0_3).bind fun t114 => (if t114 = true then ((roll_tone.f a0_4).bind fun t115 => (if t115 = true then ((roll_tone.f a0_5).bind fun t116 => (roll_Check.j0 k (!t116) a0_0 a0_1 a0_2 a0_3 a0_4 a0_5 l0_6)) else (roll_Check.j0 k true a0_0 a0_1 a0_2 a0_3 a0_4 a0_5 l0_6))) else (roll_Check.j0 k true a0_0 a0_1 a0_2 a0_3 a0_4 a0_5 l0_6))) else (roll_Check.j0 k true a0_0 a0_1 a0_2 a0_3 a0_4 a0_5 l0_6))) = some r := by rw [if_pos rfl] at H; exact H
    clear H; have H := H1; clear H1; replace H := Option.bind_eq_some_iff.mp H; obtain ⟨t113, A90, H⟩ := H; replace H : (if t113 = true then ((roll_tone.f a0_3).bind fun t114 => (if t114 = true then ((roll_tone.f a0_4).bind fun t115 => (if t115 = true then ((roll_tone.f a0_5).bind fun t116 => (roll_Check.j0 k (!t116) a0_0 a0_1 a0_2 a0_3 a0_4 a0_5 l0_6)) else (roll_Check.j0 k true a0_0 a0_1 a0_2 a0_3 a0_4 a0_5 l0_6))) else (roll_Check.j0 k true a0_0 a0_1 a0_2 a0_3 a0_4 a0_5 l0_6))) else (roll_Check.j0 k true a0_0 a0_1 a0_2 a0_3 a0_4 a0_5 l0_6)) = some r := H; have A9 := Aside0.mk A90; clear A90
    by_cases c10 : t113 = true
    ·subst c10
     have H1 : ((roll_tone.f a0_3).bind fun t114 => (if t114 = true then ((roll_tone.f a0_4).bind fun t115 => (if t115 = true then ((roll_tone.f a0_5).bind fun t116 => (roll_Check.j0 k (!t116) a0_0 a0_1 a0_2 a0_3 a0_4 a0_5 l0_6)) else (roll_Check.j0 k true a0_0 a0_1 a0_2 a0_3 a0_4 a0_5 l0_6))) else (roll_Check.j0 k true a0_0 a0_1 a0_2 a0_3 a0_4 a0_5 l0_6))) = some r := by rw [if_pos rfl] at H; exact H
     clear H; have H := H1; clear H1; replace H := Option.bind_eq_some_iff.mp H; obtain ⟨t114, A110, H⟩ := H; replace H : (if t114 = true then ((roll_tone.f a0_4).bind fun t115 => (if t115 = true then ((roll_tone.f a0_5).bind fun t116 => (roll_Check.j0 k (!t116) a0_0 a0_1 a0_2 a0_3 a0_4 a0_5 l0_6)) else (roll_Check.j0 k true a0_0 a0_1 a0_2 a0_3 a0_4 a0_5 l0_6))) else (roll_Check.j0 k true a0_0 a0_1 a0_2 a0_3 a0_4 a0_5 l0_6)) = some r := H; have A11 := Aside0.mk A110; clear A110
     by_cases c12 : t114 = true
     ·subst c12
      have H1 : ((roll_tone.f a0_4).bind fun t115 => (if t115 = true then ((roll_tone.f a0_5).bind fun t116 => (roll_Check.j0 k (!t116) a0_0 a0_1 a0_2 a0_3 a0_4 a0_5 l0_6)) else (roll_Check.j0 k true a0_0 a0_1 a0_2 a0_3 a0_4 a0_5 l0_6))) = some r := by rw [if_pos rfl] at H; exact H
      clear H; have H := H1; clear H1; replace H := Option.bind_eq_some_iff.mp H; obtain ⟨t115, A130, H⟩ := H; replace H : (if t115 = true then ((roll_tone.f a0_5).bind fun t116 => (roll_Check.j0 k (!t116) a0_0 a0_1 a0_2 a0_3 a0_4 a0_5 l0_6)) else (roll_Check.j0 k true a0_0 a0_1 a0_2 a0_3 a0_4 a0_5 l0_6)) = some r := H; have A13 := Aside0.mk A130; clear A130
      by_cases c14 : t115 = true
      ·subst c14
       have H1 : ((roll_tone.f a0_5).bind fun t116 => (roll_Check.j0 k (!t116) a0_0 a0_1 a0_2 a0_3 a0_4 a0_5 l0_6)) = some r := by rw [if_pos rfl] at H; exact H
       clear H; have H := H1; clear H1; replace H := Option.bind_eq_some_iff.mp H; obtain ⟨t116, A150, H⟩ := H; replace H : (roll_Check.j0 k (!t116) a0_0 a0_1 a0_2 a0_3 a0_4 a0_5 l0_6) = some r := H; have A15 := Aside0.mk A150; clear A150; have H' := Aside0.mk H; clear H; have hcz16_0 := bc BK110.out 0 (.string a0_0) rfl; have hcz16_1 := bc BK110.out 1 (.int .i64 a0_1) rfl; have hcz16_2 := bc BK110.out 2 (.int .i64 a0_2) rfl; have hcz16_3 := bc BK110.out 3 (.int .i64 a0_3) rfl; have hcz16_4 := bc BK110.out 4 (.int .i64 a0_4) rfl; have hcz16_5 := bc BK110.out 5 (.int .i64 a0_5) rfl; have hcz16_6 := bc BK110.out 6 (.slice A0_6 l0_6.length c0_6) rfl; have hfz16_0 := blk_frozen BK110.out 0; have hfz16_1 := blk_frozen BK110.out 1; have hfz16_2 := blk_frozen BK110.out 2; have hfz16_3 := blk_frozen BK110.out 3; have hfz16_4 := blk_frozen BK110.out 4; have hfz16_5 := blk_frozen BK110.out 5; have hfz16_6 := blk_frozen BK110.out 6
       go_wp2_with (first | ((with_reducible refine gate_callee (f := 24) rfl ?_); refine goesA (some 13) rfl rfl Tryz.func24 (by kernel_rfl) rfl #[.int .i64 a0_2] rfl ?_; (with_reducible refine (roll_size.calls a0_2 true _ A7.out).mono ?_); rintro e w' ⟨rfl, ⟨nd, rfl⟩⟩; refine ⟨_, rfl, ?_⟩) | (go_at_call 24; (with_reducible refine (roll_size.calls a0_1 true _ A9.out).mono ?_); rintro e w' ⟨rfl, ⟨nd, rfl⟩⟩) | (go_at_call 25; (with_reducible refine (roll_tone.calls a0_3 true _ A11.out).mono ?_); rintro e w' ⟨rfl, ⟨nd, rfl⟩⟩) | (go_at_call 25; (with_reducible refine (roll_tone.calls a0_4 true _ A13.out).mono ?_); rintro e w' ⟨rfl, ⟨nd, rfl⟩⟩) | (go_at_call 25; (with_reducible refine (roll_tone.calls a0_5 t116 _ A15.out).mono ?_); rintro e w' ⟨rfl, ⟨nd, rfl⟩⟩))
       go_meet
       case rel => exact ⟨_, (!t116), (by first | rfl | (simp; done) | (simp [*]; done)), H', ⟨by first | omega | exact Nat.le_refl _⟩, ⟨bu (BK110.out)⟩, ⟨be HB.out⟩⟩
      ·replace c14 := Bool.eq_false_iff.mpr c14; subst c14
       have H1 : (roll_Check.j0 k true a0_0 a0_1 a0_2 a0_3 a0_4 a0_5 l0_6) = some r := by rw [if_neg (show ¬ (false = true) by decide)] at H; exact H
       clear H; have H := H1; clear H1; have H' := Aside0.mk H; clear H; have hcz17_0 := bc BK110.out 0 (.string a0_0) rfl; have hcz17_1 := bc BK110.out 1 (.int .i64 a0_1) rfl; have hcz17_2 := bc BK110.out 2 (.int .i64 a0_2) rfl; have hcz17_3 := bc BK110.out 3 (.int .i64 a0_3) rfl; have hcz17_4 := bc BK110.out 4 (.int .i64 a0_4) rfl; have hcz17_5 := bc BK110.out 5 (.int .i64 a0_5) rfl; have hcz17_6 := bc BK110.out 6 (.slice A0_6 l0_6.length c0_6) rfl; have hfz17_0 := blk_frozen BK110.out 0; have hfz17_1 := blk_frozen BK110.out 1; have hfz17_2 := blk_frozen BK110.out 2; have hfz17_3 := blk_frozen BK110.out 3; have hfz17_4 := blk_frozen BK110.out 4; have hfz17_5 := blk_frozen BK110.out 5; have hfz17_6 := blk_frozen BK110.out 6
       go_wp2_with (first | ((with_reducible refine gate_callee (f := 24) rfl ?_); refine goesA (some 13) rfl rfl Tryz.func24 (by kernel_rfl) rfl #[.int .i64 a0_2] rfl ?_; (with_reducible refine (roll_size.calls a0_2 true _ A7.out).mono ?_); rintro e w' ⟨rfl, ⟨nd, rfl⟩⟩; refine ⟨_, rfl, ?_⟩) | (go_at_call 24; (with_reducible refine (roll_size.calls a0_1 true _ A9.out).mono ?_); rintro e w' ⟨rfl, ⟨nd, rfl⟩⟩) | (go_at_call 25; (with_reducible refine (roll_tone.calls a0_3 true _ A11.out).mono ?_); rintro e w' ⟨rfl, ⟨nd, rfl⟩⟩) | (go_at_call 25; (with_reducible refine (roll_tone.calls a0_4 false _ A13.out).mono ?_); rintro e w' ⟨rfl, ⟨nd, rfl⟩⟩))
       go_meet
       case rel => exact ⟨_, (true), (by first | rfl | (simp; done) | (simp [*]; done)), H', ⟨by first | omega | exact Nat.le_refl _⟩, ⟨bu (BK110.out)⟩, ⟨be HB.out⟩⟩
     ·replace c12 := Bool.eq_false_iff.mpr c12; subst c12
      have H1 : (roll_Check.j0 k true a0_0 a0_1 a0_2 a0_3 a0_4 a0_5 l0_6) = some r := by rw [if_neg (show ¬ (false = true) by decide)] at H; exact H
      clear H; have H := H1; clear H1; have H' := Aside0.mk H; clear H; have hcz18_0 := bc BK110.out 0 (.string a0_0) rfl; have hcz18_1 := bc BK110.out 1 (.int .i64 a0_1) rfl; have hcz18_2 := bc BK110.out 2 (.int .i64 a0_2) rfl; have hcz18_3 := bc BK110.out 3 (.int .i64 a0_3) rfl; have hcz18_4 := bc BK110.out 4 (.int .i64 a0_4) rfl; have hcz18_5 := bc BK110.out 5 (.int .i64 a0_5) rfl; have hcz18_6 := bc BK110.out 6 (.slice A0_6 l0_6.length c0_6) rfl; have hfz18_0 := blk_frozen BK110.out 0; have hfz18_1 := blk_frozen BK110.out 1; have hfz18_2 := blk_frozen BK110.out 2; have hfz18_3 := blk_frozen BK110.out 3; have hfz18_4 := blk_frozen BK110.out 4; have hfz18_5 := blk_frozen BK110.out 5; have hfz18_6 := blk_frozen BK110.out 6
      go_wp2_with (first | ((with_reducible refine gate_callee (f := 24) rfl ?_); refine goesA (some 13) rfl rfl Tryz.func24 (by kernel_rfl) rfl #[.int .i64 a0_2] rfl ?_; (with_reducible refine (roll_size.calls a0_2 true _ A7.out).mono ?_); rintro e w' ⟨rfl, ⟨nd, rfl⟩⟩; refine ⟨_, rfl, ?_⟩) | (go_at_call 24; (with_reducible refine (roll_size.calls a0_1 true _ A9.out).mono ?_); rintro e w' ⟨rfl, ⟨nd, rfl⟩⟩) | (go_at_call 25; (with_reducible refine (roll_tone.calls a0_3 false _ A11.out).mono ?_); rintro e w' ⟨rfl, ⟨nd, rfl⟩⟩))
      go_meet
      case rel => exact ⟨_, (true), (by first | rfl | (simp; done) | (simp [*]; done)), H', ⟨by first | omega | exact Nat.le_refl _⟩, ⟨bu (BK110.out)⟩, ⟨be HB.out⟩⟩
    ·replace c10 := Bool.eq_false_iff.mpr c10; subst c10
     have H1 : (roll_Check.j0 k true a0_0 a0_1 a0_2 a0_3 a0_4 a0_5 l0_6) = some r := by rw [if_neg (show ¬ (false = true) by decide)] at H; exact H
     clear H; have H := H1; clear H1; have H' := Aside0.mk H; clear H; have hcz19_0 := bc BK110.out 0 (.string a0_0) rfl; have hcz19_1 := bc BK110.out 1 (.int .i64 a0_1) rfl; have hcz19_2 := bc BK110.out 2 (.int .i64 a0_2) rfl; have hcz19_3 := bc BK110.out 3 (.int .i64 a0_3) rfl; have hcz19_4 := bc BK110.out 4 (.int .i64 a0_4) rfl; have hcz19_5 := bc BK110.out 5 (.int .i64 a0_5) rfl; have hcz19_6 := bc BK110.out 6 (.slice A0_6 l0_6.length c0_6) rfl; have hfz19_0 := blk_frozen BK110.out 0; have hfz19_1 := blk_frozen BK110.out 1; have hfz19_2 := blk_frozen BK110.out 2; have hfz19_3 := blk_frozen BK110.out 3; have hfz19_4 := blk_frozen BK110.out 4; have hfz19_5 := blk_frozen BK110.out 5; have hfz19_6 := blk_frozen BK110.out 6
     go_wp2_with (first | ((with_reducible refine gate_callee (f := 24) rfl ?_); refine goesA (some 13) rfl rfl Tryz.func24 (by kernel_rfl) rfl #[.int .i64 a0_2] rfl ?_; (with_reducible refine (roll_size.calls a0_2 true _ A7.out).mono ?_); rintro e w' ⟨rfl, ⟨nd, rfl⟩⟩; refine ⟨_, rfl, ?_⟩) | (go_at_call 24; (with_reducible refine (roll_size.calls a0_1 false _ A9.out).mono ?_); rintro e w' ⟨rfl, ⟨nd, rfl⟩⟩))
     go_meet
     case rel => exact ⟨_, (true), (by first | rfl | (simp; done) | (simp [*]; done)), H', ⟨by first | omega | exact Nat.le_refl _⟩, ⟨bu (BK110.out)⟩, ⟨be HB.out⟩⟩
   ·replace c8 := Bool.eq_false_iff.mpr c8; subst c8
    have H1 : (roll_Check.j0 k true a0_0 a0_1 a0_2 a0_3 a0_4 a0_5 l0_6) = some r := by rw [if_neg (show ¬ (false = true) by decide)] at H; exact H
    clear H; have H := H1; clear H1; have H' := Aside0.mk H; clear H; have hcz20_0 := bc BK110.out 0 (.string a0_0) rfl; have hcz20_1 := bc BK110.out 1 (.int .i64 a0_1) rfl; have hcz20_2 := bc BK110.out 2 (.int .i64 a0_2) rfl; have hcz20_3 := bc BK110.out 3 (.int .i64 a0_3) rfl; have hcz20_4 := bc BK110.out 4 (.int .i64 a0_4) rfl; have hcz20_5 := bc BK110.out 5 (.int .i64 a0_5) rfl; have hcz20_6 := bc BK110.out 6 (.slice A0_6 l0_6.length c0_6) rfl; have hfz20_0 := blk_frozen BK110.out 0; have hfz20_1 := blk_frozen BK110.out 1; have hfz20_2 := blk_frozen BK110.out 2; have hfz20_3 := blk_frozen BK110.out 3; have hfz20_4 := blk_frozen BK110.out 4; have hfz20_5 := blk_frozen BK110.out 5; have hfz20_6 := blk_frozen BK110.out 6
    go_wp2_with (first | ((with_reducible refine gate_callee (f := 24) rfl ?_); refine goesA (some 13) rfl rfl Tryz.func24 (by kernel_rfl) rfl #[.int .i64 a0_2] rfl ?_; (with_reducible refine (roll_size.calls a0_2 false _ A7.out).mono ?_); rintro e w' ⟨rfl, ⟨nd, rfl⟩⟩; refine ⟨_, rfl, ?_⟩))
    go_meet
    case rel => exact ⟨_, (true), (by first | rfl | (simp; done) | (simp [*]; done)), H', ⟨by first | omega | exact Nat.le_refl _⟩, ⟨bu (BK110.out)⟩, ⟨be HB.out⟩⟩
  case rest =>
   clear HC4
   try clear c1
   try clear c2
   try clear p2
   try clear c3
   try clear c8
   try clear c10
   try clear c11
   try clear c12
   try clear c14
   try clear hcz16_0 hcz16_1 hcz16_2 hcz16_3 hcz16_4 hcz16_5 hcz16_6
   try clear hcz17_0 hcz17_1 hcz17_2 hcz17_3 hcz17_4 hcz17_5 hcz17_6
   try clear hcz18_0 hcz18_1 hcz18_2 hcz18_3 hcz18_4 hcz18_5 hcz18_6
   try clear hcz19_0 hcz19_1 hcz19_2 hcz19_3 hcz19_4 hcz19_5 hcz19_6
   try clear hcz20_0 hcz20_1 hcz20_2 hcz20_3 hcz20_4 hcz20_5 hcz20_6
   try clear hcz6_0 hcz6_1 hcz6_2 hcz6_3 hcz6_4 hcz6_5 hcz6_6
   try clear hfz16_0 hfz16_1 hfz16_2 hfz16_3 hfz16_4 hfz16_5 hfz16_6
   try clear hfz17_0 hfz17_1 hfz17_2 hfz17_3 hfz17_4 hfz17_5 hfz17_6
   try clear hfz18_0 hfz18_1 hfz18_2 hfz18_3 hfz18_4 hfz18_5 hfz18_6
   try clear hfz19_0 hfz19_1 hfz19_2 hfz19_3 hfz19_4 hfz19_5 hfz19_6
   try clear hfz20_0 hfz20_1 hfz20_2 hfz20_3 hfz20_4 hfz20_5 hfz20_6
   try clear hfz6_0 hfz6_1 hfz6_2 hfz6_3 hfz6_4 hfz6_5 hfz6_6
   obtain ⟨kq, x10_3, rfl, HA, HJ3, BK110, HB⟩ := hcut
   cases kq with
   | zero => exact absurd HA.out (by simp [roll_Check.j0])
   | succ kj3 =>
    have H := HA.out; clear HA; simp only [roll_Check.j0] at H
    by_cases c21 : x10_3 = true
    ·subst c21
     have H1 : (some 3) = some r := by rw [if_pos rfl] at H; exact H
     clear H; have H := H1; clear H1; obtain rfl := Option.some.inj H
     go_wp2
     go_ret
     exact ⟨by first | rfl | (simp [errW_none, errW_some] <;> rfl) | (simp [*, errW_none, errW_some] <;> rfl), be HB.out⟩
    ·replace c21 := Bool.eq_false_iff.mpr c21; subst c21
     have H1 : (if (l0_6.length : Int) > 20 then (some 5) else (roll_Check.l0 kj3 l0_6 (l0_6.length : Int) 0 a0_0 a0_1 a0_2 a0_3 a0_4 a0_5 l0_6)) = some r := by rw [if_neg (show ¬ (false = true) by decide)] at H; exact H
     clear H; have H := H1; clear H1
     by_cases c22 : (l0_6.length : Int) > 20
     ·rw [if_pos c22] at H; have c22b0 : decide (20 < (l0_6.length : Int)) = true := decide_eq_true c22; have c22b1 : decide (20 < l0_6.length) = true := decide_eq_true (by omega); clear c22; obtain rfl := Option.some.inj H; have hcz23_0 := bc BK110.out 0 (.string a0_0) rfl; have hcz23_1 := bc BK110.out 1 (.int .i64 a0_1) rfl; have hcz23_2 := bc BK110.out 2 (.int .i64 a0_2) rfl; have hcz23_3 := bc BK110.out 3 (.int .i64 a0_3) rfl; have hcz23_4 := bc BK110.out 4 (.int .i64 a0_4) rfl; have hcz23_5 := bc BK110.out 5 (.int .i64 a0_5) rfl; have hcz23_6 := bc BK110.out 6 (.slice A0_6 l0_6.length c0_6) rfl; have hfz23_0 := blk_frozen BK110.out 0; have hfz23_1 := blk_frozen BK110.out 1; have hfz23_2 := blk_frozen BK110.out 2; have hfz23_3 := blk_frozen BK110.out 3; have hfz23_4 := blk_frozen BK110.out 4; have hfz23_5 := blk_frozen BK110.out 5; have hfz23_6 := blk_frozen BK110.out 6
      go_wp2
      go_ret
      exact ⟨by first | rfl | (simp [errW_none, errW_some] <;> rfl) | (simp [*, errW_none, errW_some] <;> rfl), be HB.out⟩
     ·rw [if_neg c22] at H; have c22b0 : decide (20 < (l0_6.length : Int)) = false := decide_eq_false c22; have c22b1 : decide (20 < l0_6.length) = false := decide_eq_false (by omega); clear c22; have H' := Aside0.mk H; clear H; have hcz24_0 := bc BK110.out 0 (.string a0_0) rfl; have hcz24_1 := bc BK110.out 1 (.int .i64 a0_1) rfl; have hcz24_2 := bc BK110.out 2 (.int .i64 a0_2) rfl; have hcz24_3 := bc BK110.out 3 (.int .i64 a0_3) rfl; have hcz24_4 := bc BK110.out 4 (.int .i64 a0_4) rfl; have hcz24_5 := bc BK110.out 5 (.int .i64 a0_5) rfl; have hcz24_6 := bc BK110.out 6 (.slice A0_6 l0_6.length c0_6) rfl; have hfz24_0 := blk_frozen BK110.out 0; have hfz24_1 := blk_frozen BK110.out 1; have hfz24_2 := blk_frozen BK110.out 2; have hfz24_3 := blk_frozen BK110.out 3; have hfz24_4 := blk_frozen BK110.out 4; have hfz24_5 := blk_frozen BK110.out 5; have hfz24_6 := blk_frozen BK110.out 6
      go_wp2
      go_loopg [50] kj3 (fun kq v50 w' => ∃ (x50_2 : Int), v50 = .int .i64 x50_2 ∧ Aside0 (roll_Check.l0 kq l0_6 (l0_6.length : Int) x50_2 a0_0 a0_1 a0_2 a0_3 a0_4 a0_5 l0_6 = some r) ∧ Aside0 (kq ≤ kj3) ∧ Aside0 (w'.heap[gb110]? = some (.cells #[.string a0_0, .int .i64 a0_1, .int .i64 a0_2, .int .i64 a0_3, .int .i64 a0_4, .int .i64 a0_5, (.slice A0_6 l0_6.length c0_6)] 26 (0, 0))) ∧ Aside0 (Below w.heap.size w w'))
      case atStart => exact ⟨(0), (by first | rfl | (simp; done) | (simp [*]; done)), H', ⟨Nat.le_refl _⟩, ⟨bu (BK110.out)⟩, ⟨be HB.out⟩⟩
      case round =>
       clear H'
       try clear c1
       try clear c2
       try clear p2
       try clear c3
       try clear c8
       try clear c10
       try clear c11
       try clear c12
       try clear c14
       try clear c21
       try clear c22
       try clear c22b0
       try clear c22b1
       try clear c23
       try clear c24
       try clear hcz16_0 hcz16_1 hcz16_2 hcz16_3 hcz16_4 hcz16_5 hcz16_6
       try clear hcz17_0 hcz17_1 hcz17_2 hcz17_3 hcz17_4 hcz17_5 hcz17_6
       try clear hcz18_0 hcz18_1 hcz18_2 hcz18_3 hcz18_4 hcz18_5 hcz18_6
       try clear hcz19_0 hcz19_1 hcz19_2 hcz19_3 hcz19_4 hcz19_5 hcz19_6
       try clear hcz20_0 hcz20_1 hcz20_2 hcz20_3 hcz20_4 hcz20_5 hcz20_6
       try clear hcz23_0 hcz23_1 hcz23_2 hcz23_3 hcz23_4 hcz23_5 hcz23_6
       try clear hcz24_0 hcz24_1 hcz24_2 hcz24_3 hcz24_4 hcz24_5 hcz24_6
       try clear hcz6_0 hcz6_1 hcz6_2 hcz6_3 hcz6_4 hcz6_5 hcz6_6
       try clear hfz16_0 hfz16_1 hfz16_2 hfz16_3 hfz16_4 hfz16_5 hfz16_6
       try clear hfz17_0 hfz17_1 hfz17_2 hfz17_3 hfz17_4 hfz17_5 hfz17_6
       try clear hfz18_0 hfz18_1 hfz18_2 hfz18_3 hfz18_4 hfz18_5 hfz18_6
       try clear hfz19_0 hfz19_1 hfz19_2 hfz19_3 hfz19_4 hfz19_5 hfz19_6
       try clear hfz20_0 hfz20_1 hfz20_2 hfz20_3 hfz20_4 hfz20_5 hfz20_6
       try clear hfz23_0 hfz23_1 hfz23_2 hfz23_3 hfz23_4 hfz23_5 hfz23_6
       try clear hfz24_0 hfz24_1 hfz24_2 hfz24_3 hfz24_4 hfz24_5 hfz24_6
       try clear hfz6_0 hfz6_1 hfz6_2 hfz6_3 hfz6_4 hfz6_5 hfz6_6
       try clear p2
       obtain ⟨x50_2, rfl, HA, HK2, BK110, HB⟩ := hrel
       cases gk with
       | zero => exact absurd HA.out (by simp [roll_Check.l0])
       | succ k2 =>
        have H := HA.out; clear HA; simp only [roll_Check.l0] at H
        by_cases c25 : x50_2 < (l0_6.length : Int)
        ·rw [if_pos c25] at H; have c25b0 : decide (x50_2 < (l0_6.length : Int)) = true := decide_eq_true c25; clear c25
         by_cases c26 : 0 ≤ x50_2
         ·rw [if_pos c26] at H; have c26b0 : decide (0 ≤ x50_2) = true := decide_eq_true c26; clear c26
          by_cases c27 : x50_2 < (l0_6.length : Int)
          ·rw [if_pos c27] at H; have c27b0 : decide (x50_2 < (l0_6.length : Int)) = true := decide_eq_true c27; clear c27; have HC28 := Aside0.mk H; clear H; have p117 : 0 ≤ (x50_2 : Int) := oda; have q117 : x50_2 < (l0_6.length : Int) := oda; obtain ⟨ad117, e117, hx117_0, hx117_1, hx117_2, hx117_3⟩ := at_T46 HR0_6.out x50_2 p117 q117; cases e117; replace hx117_0 := (HB.out.cell (World.block_lt_of_cell? w _ hx117_0)).trans hx117_0; replace hx117_1 := (HB.out.cell (World.block_lt_of_cell? w _ hx117_1)).trans hx117_1; replace hx117_2 := (HB.out.cell (World.block_lt_of_cell? w _ hx117_2)).trans hx117_2; replace hx117_3 := (HB.out.cell (World.block_lt_of_cell? w _ hx117_3)).trans hx117_3; replace p117 := eq_true p117; replace q117 := eq_true q117
           go_upto_region 10 with (first | ((with_reducible refine gate_dst (N := 4) rfl ?_); refine box_event ?hg (N := 4) ?hd (cs := #[.int .i64 0, .int .i64 0, .int .i64 0, .int .i64 0]) (t := 46) ?hr ?_; (case hd => rfl); (case hg => rfl); (case hr => first | (go_simp; done) | (go_simp; rfl)); intro gb118 hg w29 hbox hb; have BK118 := Aside0.mk (hbox); have GW118 := Aside0.mk ((by rw [hg]; exact (below_size (be HB.out)) : w.heap.size ≤ gb118)); have GE118 := Aside0.mk ((by rw [hg]; exact (below_size (be HB.out)) : w.heap.size ≤ gb118)); have NB110_118 := Aside0.mk ((by rw [hg]; exact Nat.ne_of_lt (blk_lt (g := gb110) (o := .cells #[.string a0_0, .int .i64 a0_1, .int .i64 a0_2, .int .i64 a0_3, .int .i64 a0_4, .int .i64 a0_5, .slice (some ad117) l0_6.length c0_6] 26 (0, 0)) (bu BK110.out)) : gb110 ≠ gb118)); have NB118_110 := Aside0.mk ((by rw [hg]; exact Nat.ne_of_gt (blk_lt (g := gb110) (o := .cells #[.string a0_0, .int .i64 a0_1, .int .i64 a0_2, .int .i64 a0_3, .int .i64 a0_4, .int .i64 a0_5, .slice (some ad117) l0_6.length c0_6] 26 (0, 0)) (bu BK110.out)) : gb118 ≠ gb110)); replace BK110 := Aside0.mk (blk_below (bu BK110.out) hb); replace HB := Aside0.mk (below_step (be HB.out) hb); clear hb hbox hg; have hnb30 := NB118_110.out; have hnc30 := NB110_118.out; have hcz31_0 := bc BK118.out 0 (.int .i64 0) rfl; have hcz31_1 := bc BK118.out 1 (.int .i64 0) rfl; have hcz31_2 := bc BK118.out 2 (.int .i64 0) rfl; have hcz31_3 := bc BK118.out 3 (.int .i64 0) rfl; have hfz31_0 := blk_frozen BK118.out 0; have hfz31_1 := blk_frozen BK118.out 1; have hfz31_2 := blk_frozen BK118.out 2; have hfz31_3 := blk_frozen BK118.out 3))
           (try simp only [Act.put, List.setIfInBounds_toArray, List.set_cons_zero, List.set_cons_succ])
           go_cut [71] (fun v71 wc => ∃ (kq : Nat) (x71_27 : Bool), v71 = .bool x71_27 ∧ Aside0 (roll_Check.j2 kq l0_6 (l0_6.length : Int) x50_2 x71_27 a0_0 a0_1 a0_2 a0_3 a0_4 a0_5 l0_6 = some r) ∧ Aside0 (kq ≤ k2) ∧ Aside0 (wc.heap[gb110]? = some (.cells #[.string a0_0, .int .i64 a0_1, .int .i64 a0_2, .int .i64 a0_3, .int .i64 a0_4, .int .i64 a0_5, (.slice (some ad117) l0_6.length c0_6)] 26 (0, 0))) ∧ Aside0 (wc.heap[gb118]? = some (.cells #[.int .i64 ((rd_T46 l0_6 x50_2).f0), .int .i64 ((rd_T46 l0_6 x50_2).f1), .int .i64 ((rd_T46 l0_6 x50_2).f2), .int .i64 ((rd_T46 l0_6 x50_2).f3)] 46 (0, 0))) ∧ Aside0 (Below w.heap.size w wc))
           case first =>
            have H := HC28.out; clear HC28; replace H := Option.bind_eq_some_iff.mp H; obtain ⟨t119, A320, H⟩ := H; replace H : (if t119 = true then ((roll_within.f ((rd_T46 l0_6 x50_2).f1) ((rd_T46 l0_6 x50_2).f3) a0_1).bind fun t120 => (roll_Check.j2 k2 l0_6 (l0_6.length : Int) x50_2 (!t120) a0_0 a0_1 a0_2 a0_3 a0_4 a0_5 l0_6)) else (roll_Check.j2 k2 l0_6 (l0_6.length : Int) x50_2 true a0_0 a0_1 a0_2 a0_3 a0_4 a0_5 l0_6)) = some r := H; have A32 := Aside0.mk A320; clear A320
            by_cases c33 : t119 = true
            ·subst c33
             have H1 : ((roll_within.f ((rd_T46 l0_6 x50_2).f1) ((rd_T46 l0_6 x50_2).f3) a0_1).bind fun t120 => (roll_Check.j2 k2 l0_6 (l0_6.length : Int) x50_2 (!t120) a0_0 a0_1 a0_2 a0_3 a0_4 a0_5 l0_6)) = some r := by rw [if_pos rfl] at H; exact H
             clear H; have H := H1; clear H1; replace H := Option.bind_eq_some_iff.mp H; obtain ⟨t120, A340, H⟩ := H; replace H : (roll_Check.j2 k2 l0_6 (l0_6.length : Int) x50_2 (!t120) a0_0 a0_1 a0_2 a0_3 a0_4 a0_5 l0_6) = some r := H; have A34 := Aside0.mk A340; clear A340; have H' := Aside0.mk H; clear H; have hnb35 := NB118_110.out; have hnc35 := NB110_118.out; have hcz36_0 := bc BK118.out 0 (.int .i64 0) rfl; have hcz36_1 := bc BK118.out 1 (.int .i64 0) rfl; have hcz36_2 := bc BK118.out 2 (.int .i64 0) rfl; have hcz36_3 := bc BK118.out 3 (.int .i64 0) rfl; have hfz36_0 := blk_frozen BK118.out 0; have hfz36_1 := blk_frozen BK118.out 1; have hfz36_2 := blk_frozen BK118.out 2; have hfz36_3 := blk_frozen BK118.out 3; have hcz37_0 := bc BK110.out 0 (.string a0_0) rfl; have hcz37_1 := bc BK110.out 1 (.int .i64 a0_1) rfl; have hcz37_2 := bc BK110.out 2 (.int .i64 a0_2) rfl; have hcz37_3 := bc BK110.out 3 (.int .i64 a0_3) rfl; have hcz37_4 := bc BK110.out 4 (.int .i64 a0_4) rfl; have hcz37_5 := bc BK110.out 5 (.int .i64 a0_5) rfl; have hcz37_6 := bc BK110.out 6 (.slice (some ad117) l0_6.length c0_6) rfl; have hfz37_0 := blk_frozen BK110.out 0; have hfz37_1 := blk_frozen BK110.out 1; have hfz37_2 := blk_frozen BK110.out 2; have hfz37_3 := blk_frozen BK110.out 3; have hfz37_4 := blk_frozen BK110.out 4; have hfz37_5 := blk_frozen BK110.out 5; have hfz37_6 := blk_frozen BK110.out 6
             go_wp2_with (first | ((with_reducible refine gate_callee (f := 26) rfl ?_); refine goesA (some 60) rfl rfl Tryz.func26 (by kernel_rfl) rfl #[.int .i64 ((rd_T46 l0_6 x50_2).f0), .int .i64 ((rd_T46 l0_6 x50_2).f2), .int .i64 a0_2] rfl ?_; (with_reducible refine (roll_within.calls ((rd_T46 l0_6 x50_2).f0) ((rd_T46 l0_6 x50_2).f2) a0_2 true _ A32.out).mono ?_); rintro e w' ⟨rfl, ⟨nd, rfl⟩⟩; refine ⟨_, rfl, ?_⟩) | (go_at_call 26; (with_reducible refine (roll_within.calls ((rd_T46 l0_6 x50_2).f1) ((rd_T46 l0_6 x50_2).f3) a0_1 t120 _ A34.out).mono ?_); rintro e w' ⟨rfl, ⟨nd, rfl⟩⟩))
             go_meet
             case rel => exact ⟨_, (!t120), (by first | rfl | (simp; done) | (simp [*]; done)), H', ⟨by have := HJ3.out; have := HK2.out; first | omega | exact Nat.le_refl _⟩, ⟨by (with_reducible repeat (first | refine blk_drewN ?_ _ | refine blk_drew ?_ | refine blk_alloc ?_ _)); refine blk_far ?_ NB110_118.out _; (with_reducible repeat (first | refine blk_drewN ?_ _ | refine blk_drew ?_ | refine blk_alloc ?_ _)); refine blk_far ?_ NB110_118.out _; (with_reducible repeat (first | refine blk_drewN ?_ _ | refine blk_drew ?_ | refine blk_alloc ?_ _)); refine blk_far ?_ NB110_118.out _; (with_reducible repeat (first | refine blk_drewN ?_ _ | refine blk_drew ?_ | refine blk_alloc ?_ _)); refine blk_far ?_ NB110_118.out _; (with_reducible repeat (first | refine blk_drewN ?_ _ | refine blk_drew ?_ | refine blk_alloc ?_ _)); exact BK110.out⟩, ⟨by (with_reducible repeat (first | refine blk_drewN ?_ _ | refine blk_drew ?_ | refine blk_alloc ?_ _)); refine blk_put (cs := #[.int .i64 ((rd_T46 l0_6 x50_2).f0), .int .i64 ((rd_T46 l0_6 x50_2).f1), .int .i64 ((rd_T46 l0_6 x50_2).f2), .int .i64 0]) ?_ 3 _ rfl; (with_reducible repeat (first | refine blk_drewN ?_ _ | refine blk_drew ?_ | refine blk_alloc ?_ _)); refine blk_put (cs := #[.int .i64 ((rd_T46 l0_6 x50_2).f0), .int .i64 ((rd_T46 l0_6 x50_2).f1), .int .i64 0, .int .i64 0]) ?_ 2 _ rfl; (with_reducible repeat (first | refine blk_drewN ?_ _ | refine blk_drew ?_ | refine blk_alloc ?_ _)); refine blk_put (cs := #[.int .i64 ((rd_T46 l0_6 x50_2).f0), .int .i64 0, .int .i64 0, .int .i64 0]) ?_ 1 _ rfl; (with_reducible repeat (first | refine blk_drewN ?_ _ | refine blk_drew ?_ | refine blk_alloc ?_ _)); refine blk_put (cs := #[.int .i64 0, .int .i64 0, .int .i64 0, .int .i64 0]) ?_ 0 _ rfl; (with_reducible repeat (first | refine blk_drewN ?_ _ | refine blk_drew ?_ | refine blk_alloc ?_ _)); exact BK118.out⟩, ⟨be HB.out⟩⟩
            ·replace c33 := Bool.eq_false_iff.mpr c33; subst c33
             have H1 : (roll_Check.j2 k2 l0_6 (l0_6.length : Int) x50_2 true a0_0 a0_1 a0_2 a0_3 a0_4 a0_5 l0_6) = some r := by rw [if_neg (show ¬ (false = true) by decide)] at H; exact H
             clear H; have H := H1; clear H1; have H' := Aside0.mk H; clear H; have hnb38 := NB118_110.out; have hnc38 := NB110_118.out; have hcz39_0 := bc BK118.out 0 (.int .i64 0) rfl; have hcz39_1 := bc BK118.out 1 (.int .i64 0) rfl; have hcz39_2 := bc BK118.out 2 (.int .i64 0) rfl; have hcz39_3 := bc BK118.out 3 (.int .i64 0) rfl; have hfz39_0 := blk_frozen BK118.out 0; have hfz39_1 := blk_frozen BK118.out 1; have hfz39_2 := blk_frozen BK118.out 2; have hfz39_3 := blk_frozen BK118.out 3; have hcz40_0 := bc BK110.out 0 (.string a0_0) rfl; have hcz40_1 := bc BK110.out 1 (.int .i64 a0_1) rfl; have hcz40_2 := bc BK110.out 2 (.int .i64 a0_2) rfl; have hcz40_3 := bc BK110.out 3 (.int .i64 a0_3) rfl; have hcz40_4 := bc BK110.out 4 (.int .i64 a0_4) rfl; have hcz40_5 := bc BK110.out 5 (.int .i64 a0_5) rfl; have hcz40_6 := bc BK110.out 6 (.slice (some ad117) l0_6.length c0_6) rfl; have hfz40_0 := blk_frozen BK110.out 0; have hfz40_1 := blk_frozen BK110.out 1; have hfz40_2 := blk_frozen BK110.out 2; have hfz40_3 := blk_frozen BK110.out 3; have hfz40_4 := blk_frozen BK110.out 4; have hfz40_5 := blk_frozen BK110.out 5; have hfz40_6 := blk_frozen BK110.out 6
             go_wp2_with (first | ((with_reducible refine gate_callee (f := 26) rfl ?_); refine goesA (some 60) rfl rfl Tryz.func26 (by kernel_rfl) rfl #[.int .i64 ((rd_T46 l0_6 x50_2).f0), .int .i64 ((rd_T46 l0_6 x50_2).f2), .int .i64 a0_2] rfl ?_; (with_reducible refine (roll_within.calls ((rd_T46 l0_6 x50_2).f0) ((rd_T46 l0_6 x50_2).f2) a0_2 false _ A32.out).mono ?_); rintro e w' ⟨rfl, ⟨nd, rfl⟩⟩; refine ⟨_, rfl, ?_⟩))
             go_meet
             case rel => exact ⟨_, (true), (by first | rfl | (simp; done) | (simp [*]; done)), H', ⟨by have := HJ3.out; have := HK2.out; first | omega | exact Nat.le_refl _⟩, ⟨by (with_reducible repeat (first | refine blk_drewN ?_ _ | refine blk_drew ?_ | refine blk_alloc ?_ _)); refine blk_far ?_ NB110_118.out _; (with_reducible repeat (first | refine blk_drewN ?_ _ | refine blk_drew ?_ | refine blk_alloc ?_ _)); refine blk_far ?_ NB110_118.out _; (with_reducible repeat (first | refine blk_drewN ?_ _ | refine blk_drew ?_ | refine blk_alloc ?_ _)); refine blk_far ?_ NB110_118.out _; (with_reducible repeat (first | refine blk_drewN ?_ _ | refine blk_drew ?_ | refine blk_alloc ?_ _)); refine blk_far ?_ NB110_118.out _; (with_reducible repeat (first | refine blk_drewN ?_ _ | refine blk_drew ?_ | refine blk_alloc ?_ _)); exact BK110.out⟩, ⟨by (with_reducible repeat (first | refine blk_drewN ?_ _ | refine blk_drew ?_ | refine blk_alloc ?_ _)); refine blk_put (cs := #[.int .i64 ((rd_T46 l0_6 x50_2).f0), .int .i64 ((rd_T46 l0_6 x50_2).f1), .int .i64 ((rd_T46 l0_6 x50_2).f2), .int .i64 0]) ?_ 3 _ rfl; (with_reducible repeat (first | refine blk_drewN ?_ _ | refine blk_drew ?_ | refine blk_alloc ?_ _)); refine blk_put (cs := #[.int .i64 ((rd_T46 l0_6 x50_2).f0), .int .i64 ((rd_T46 l0_6 x50_2).f1), .int .i64 0, .int .i64 0]) ?_ 2 _ rfl; (with_reducible repeat (first | refine blk_drewN ?_ _ | refine blk_drew ?_ | refine blk_alloc ?_ _)); refine blk_put (cs := #[.int .i64 ((rd_T46 l0_6 x50_2).f0), .int .i64 0, .int .i64 0, .int .i64 0]) ?_ 1 _ rfl; (with_reducible repeat (first | refine blk_drewN ?_ _ | refine blk_drew ?_ | refine blk_alloc ?_ _)); refine blk_put (cs := #[.int .i64 0, .int .i64 0, .int .i64 0, .int .i64 0]) ?_ 0 _ rfl; (with_reducible repeat (first | refine blk_drewN ?_ _ | refine blk_drew ?_ | refine blk_alloc ?_ _)); exact BK118.out⟩, ⟨be HB.out⟩⟩
           case rest =>
            clear HC28
            try clear c1
            try clear p1
            try clear q1
            try clear hx1
            try clear c2
            try clear p2
            try clear c3
            try clear c8
            try clear c10
            try clear c11
            try clear p11
            try clear q11
            try clear hx11
            try clear c12
            try clear c14
            try clear c21
            try clear c22
            try clear c22b0
            try clear c22b1
            try clear c23
            try clear c24
            try clear c25
            try clear c25b0
            try clear c26
            try clear c26b0
            try clear c27
            try clear c27b0
            try clear c30
            try clear c33
            try clear c35
            try clear c38
            try clear hcz16_0 hcz16_1 hcz16_2 hcz16_3 hcz16_4 hcz16_5 hcz16_6
            try clear hcz17_0 hcz17_1 hcz17_2 hcz17_3 hcz17_4 hcz17_5 hcz17_6
            try clear hcz18_0 hcz18_1 hcz18_2 hcz18_3 hcz18_4 hcz18_5 hcz18_6
            try clear hcz19_0 hcz19_1 hcz19_2 hcz19_3 hcz19_4 hcz19_5 hcz19_6
            try clear hcz20_0 hcz20_1 hcz20_2 hcz20_3 hcz20_4 hcz20_5 hcz20_6
            try clear hcz23_0 hcz23_1 hcz23_2 hcz23_3 hcz23_4 hcz23_5 hcz23_6
            try clear hcz24_0 hcz24_1 hcz24_2 hcz24_3 hcz24_4 hcz24_5 hcz24_6
            try clear hcz31_0 hcz31_1 hcz31_2 hcz31_3
            try clear hcz36_0 hcz36_1 hcz36_2 hcz36_3
            try clear hcz37_0 hcz37_1 hcz37_2 hcz37_3 hcz37_4 hcz37_5 hcz37_6
            try clear hcz39_0 hcz39_1 hcz39_2 hcz39_3
            try clear hcz40_0 hcz40_1 hcz40_2 hcz40_3 hcz40_4 hcz40_5 hcz40_6
            try clear hcz6_0 hcz6_1 hcz6_2 hcz6_3 hcz6_4 hcz6_5 hcz6_6
            try clear hfz16_0 hfz16_1 hfz16_2 hfz16_3 hfz16_4 hfz16_5 hfz16_6
            try clear hfz17_0 hfz17_1 hfz17_2 hfz17_3 hfz17_4 hfz17_5 hfz17_6
            try clear hfz18_0 hfz18_1 hfz18_2 hfz18_3 hfz18_4 hfz18_5 hfz18_6
            try clear hfz19_0 hfz19_1 hfz19_2 hfz19_3 hfz19_4 hfz19_5 hfz19_6
            try clear hfz20_0 hfz20_1 hfz20_2 hfz20_3 hfz20_4 hfz20_5 hfz20_6
            try clear hfz23_0 hfz23_1 hfz23_2 hfz23_3 hfz23_4 hfz23_5 hfz23_6
            try clear hfz24_0 hfz24_1 hfz24_2 hfz24_3 hfz24_4 hfz24_5 hfz24_6
            try clear hfz31_0 hfz31_1 hfz31_2 hfz31_3
            try clear hfz36_0 hfz36_1 hfz36_2 hfz36_3
            try clear hfz37_0 hfz37_1 hfz37_2 hfz37_3 hfz37_4 hfz37_5 hfz37_6
            try clear hfz39_0 hfz39_1 hfz39_2 hfz39_3
            try clear hfz40_0 hfz40_1 hfz40_2 hfz40_3 hfz40_4 hfz40_5 hfz40_6
            try clear hfz6_0 hfz6_1 hfz6_2 hfz6_3 hfz6_4 hfz6_5 hfz6_6
            try clear hx117_0
            try clear hx117_1
            try clear hx117_2
            try clear hx117_3
            try clear p117
            try clear p2
            try clear q117
            obtain ⟨kq, x71_27, rfl, HA, HJ27, BK110, BK118, HB⟩ := hcut
            cases kq with
            | zero => exact absurd HA.out (by simp [roll_Check.j2])
            | succ kj27 =>
             have H := HA.out; clear HA; simp only [roll_Check.j2] at H
             by_cases c41 : x71_27 = true
             ·subst c41
              have H1 : (some 3) = some r := by rw [if_pos rfl] at H; exact H
              clear H; have H := H1; clear H1; obtain rfl := Option.some.inj H
              go_wp2
              go_ret
              exact ⟨by first | rfl | (simp [errW_none, errW_some] <;> rfl) | (simp [*, errW_none, errW_some] <;> rfl), be HB.out⟩
             ·replace c41 := Bool.eq_false_iff.mpr c41; subst c41
              have H1 : (roll_Check.l0 kj27 l0_6 (l0_6.length : Int) (wrap64 (x50_2 + 1)) a0_0 a0_1 a0_2 a0_3 a0_4 a0_5 l0_6) = some r := by rw [if_neg (show ¬ (false = true) by decide)] at H; exact H
              clear H; have H := H1; clear H1; have H' := Aside0.mk H; clear H
              go_wp2
              go_roundg kj27
              case measure => have := HJ3.out; have := HK2.out; have := HJ27.out; omega
              case rel => exact ⟨(wrap64 (x50_2 + 1)), (by first | rfl | (simp; done) | (simp [*]; done)), H', ⟨by have := HJ3.out; have := HK2.out; have := HJ27.out; omega⟩, ⟨bu (BK110.out)⟩, ⟨be HB.out⟩⟩
          ·rw [if_neg c27] at H; exact absurd H (by simp)
         ·rw [if_neg c26] at H; exact absurd H (by simp)
        ·rw [if_neg c25] at H; have c25b0 : decide (x50_2 < (l0_6.length : Int)) = false := decide_eq_false c25; clear c25; obtain rfl := Option.some.inj H
         go_wp2
         go_ret
         exact ⟨by first | rfl | (simp [errW_none, errW_some] <;> rfl) | (simp [*, errW_none, errW_some] <;> rfl), be HB.out⟩
 ·replace c3 := Bool.eq_false_iff.mpr c3; subst c3
  have H1 : (some 1) = some r := by rw [if_neg (show ¬ (false = true) by decide)] at H; exact H
  clear H; have H := H1; clear H1; obtain rfl := Option.some.inj H
  go_enter Tryz.func11, Tryz.ntmps11
  go_wp2_with (first | ((with_reducible refine gate_dst (N := 1) rfl ?_); refine box_event ?hg (N := 1) ?hd (cs := #[.string a0_0, .int .i64 a0_1, .int .i64 a0_2, .int .i64 a0_3, .int .i64 a0_4, .int .i64 a0_5, .slice A0_6 l0_6.length c0_6]) (t := 26) ?hr ?_; (case hd => rfl); (case hg => rfl); (case hr => first | (go_simp; done) | (go_simp; rfl)); intro gb110 hg w42 hbox hb; have BK110 := Aside0.mk (hbox); have GW110 := Aside0.mk ((by rw [hg]; exact (below_size (be HB.out)) : w.heap.size ≤ gb110)); have GE110 := Aside0.mk ((by rw [hg]; exact (below_size (be HB.out)) : w.heap.size ≤ gb110)); replace HB := Aside0.mk (below_step (be HB.out) hb); clear hb hbox hg; have hcz43_0 := bc BK110.out 0 (.string a0_0) rfl; have hcz43_1 := bc BK110.out 1 (.int .i64 a0_1) rfl; have hcz43_2 := bc BK110.out 2 (.int .i64 a0_2) rfl; have hcz43_3 := bc BK110.out 3 (.int .i64 a0_3) rfl; have hcz43_4 := bc BK110.out 4 (.int .i64 a0_4) rfl; have hcz43_5 := bc BK110.out 5 (.int .i64 a0_5) rfl; have hcz43_6 := bc BK110.out 6 (.slice A0_6 l0_6.length c0_6) rfl; have hfz43_0 := blk_frozen BK110.out 0; have hfz43_1 := blk_frozen BK110.out 1; have hfz43_2 := blk_frozen BK110.out 2; have hfz43_3 := blk_frozen BK110.out 3; have hfz43_4 := blk_frozen BK110.out 4; have hfz43_5 := blk_frozen BK110.out 5; have hfz43_6 := blk_frozen BK110.out 6) | ((with_reducible refine gate_callee (f := 23) rfl ?_); refine goesA (some 8) rfl rfl Tryz.func23 (by kernel_rfl) rfl #[.string a0_0] rfl ?_; (with_reducible refine (roll_named.calls k a0_0 false _ A2.out).mono ?_); rintro e w' ⟨rfl, ⟨nd, rfl⟩⟩; refine ⟨_, rfl, ?_⟩))
  go_ret
  exact ⟨by first | rfl | (simp [errW_none, errW_some] <;> rfl) | (simp [*, errW_none, errW_some] <;> rfl), be HB.out⟩

end Go.Proofs.YtdblkmnbkpphjaaGreatDoor.P
namespace Go.Proofs.YtdblkmnbkpphjaaGreatDoor.P
open Go.RowKit Go.Proofs.YtdblkmnbkpphjaaGreatDoorW.PrintWords Go.Proofs.YtdblkmnbkpphjaaGreatDoorW.PrintLast Go.Proofs.YtdblkmnbkpphjaaGreatDoorW.PrintMore Go.Proofs.YtdblkmnbkpphjaaGreatDoorW.PrintAuto
attribute [local go_sem] max2_int min2_int max_two min_two max_three min_three max_four min_four   -- for this text's walks alone
set_option linter.unusedVariables false
set_option linter.unusedSimpArgs false

def garmentref27_capital.f (a0 : Int) : Option (Bool) := if a0 ≥ 65 then (some (decide (a0 ≤ 90))) else (some false)
set_option maxHeartbeats 8000000 in
set_option maxRecDepth 100000 in
theorem garmentref27_capital.calls (a0 : Int) (r : Bool) (w : World) (h : garmentref27_capital.f a0 = some r) :
  Calls Tryz.prog 47 #[.int .u8 a0] w fun e w' => e = .returned (.bool r) ∧ Drawn0 w w' := by
 have H : (if a0 ≥ 65 then (some (decide (a0 ≤ 90))) else (some false)) = some r := h; clear h
 by_cases c2 : a0 ≥ 65
 ·rw [if_pos c2] at H; have c2b0 : decide (65 ≤ a0) = true := decide_eq_true c2; clear c2; obtain rfl := Option.some.inj H
  go_enter Tryz.func47, Tryz.ntmps47
  go_wp2
  go_ret
  exact ⟨by first | rfl | (simp; done) | (simp [*]; done), by repeat (first | exact Drawn0.refl _ | apply Drawn0.step)⟩
 ·rw [if_neg c2] at H; have c2b0 : decide (65 ≤ a0) = false := decide_eq_false c2; clear c2; obtain rfl := Option.some.inj H
  go_enter Tryz.func47, Tryz.ntmps47
  go_wp2
  go_ret
  exact ⟨by first | rfl | (simp; done) | (simp [*]; done), by repeat (first | exact Drawn0.refl _ | apply Drawn0.step)⟩

end Go.Proofs.YtdblkmnbkpphjaaGreatDoor.P
namespace Go.Proofs.YtdblkmnbkpphjaaGreatDoor.P
open Go.RowKit Go.Proofs.YtdblkmnbkpphjaaGreatDoorW.PrintWords Go.Proofs.YtdblkmnbkpphjaaGreatDoorW.PrintLast Go.Proofs.YtdblkmnbkpphjaaGreatDoorW.PrintMore Go.Proofs.YtdblkmnbkpphjaaGreatDoorW.PrintAuto
attribute [local go_sem] max2_int min2_int max_two min_two max_three min_three max_four min_four   -- for this text's walks alone
set_option linter.unusedVariables false
set_option linter.unusedSimpArgs false

def garmentref27_digit.f (a0 : Int) : Option (Bool) := if a0 ≥ 48 then (some (decide (a0 ≤ 57))) else (some false)
set_option maxHeartbeats 8000000 in
set_option maxRecDepth 100000 in
theorem garmentref27_digit.calls (a0 : Int) (r : Bool) (w : World) (h : garmentref27_digit.f a0 = some r) :
  Calls Tryz.prog 48 #[.int .u8 a0] w fun e w' => e = .returned (.bool r) ∧ Drawn0 w w' := by
 have H : (if a0 ≥ 48 then (some (decide (a0 ≤ 57))) else (some false)) = some r := h; clear h
 by_cases c2 : a0 ≥ 48
 ·rw [if_pos c2] at H; have c2b0 : decide (48 ≤ a0) = true := decide_eq_true c2; clear c2; obtain rfl := Option.some.inj H
  go_enter Tryz.func48, Tryz.ntmps48
  go_wp2
  go_ret
  exact ⟨by first | rfl | (simp; done) | (simp [*]; done), by repeat (first | exact Drawn0.refl _ | apply Drawn0.step)⟩
 ·rw [if_neg c2] at H; have c2b0 : decide (48 ≤ a0) = false := decide_eq_false c2; clear c2; obtain rfl := Option.some.inj H
  go_enter Tryz.func48, Tryz.ntmps48
  go_wp2
  go_ret
  exact ⟨by first | rfl | (simp; done) | (simp [*]; done), by repeat (first | exact Drawn0.refl _ | apply Drawn0.step)⟩

end Go.Proofs.YtdblkmnbkpphjaaGreatDoor.P
namespace Go.Proofs.YtdblkmnbkpphjaaGreatDoor.P
open Go.RowKit Go.Proofs.YtdblkmnbkpphjaaGreatDoorW.PrintWords Go.Proofs.YtdblkmnbkpphjaaGreatDoorW.PrintLast Go.Proofs.YtdblkmnbkpphjaaGreatDoorW.PrintMore Go.Proofs.YtdblkmnbkpphjaaGreatDoorW.PrintAuto
attribute [local go_sem] max2_int min2_int max_two min_two max_three min_three max_four min_four   -- for this text's walks alone
set_option linter.unusedVariables false
set_option linter.unusedSimpArgs false

mutual
def garmentref27_id.j0 : Nat → ByteArray → Bool → Option (Bool)
 | 0, _, _ => none
 | k + 1, x0, x16 => if x16 = true then (some false) else (garmentref27_id.l0 k x0 1)
def garmentref27_id.l0 : Nat → ByteArray → Int → Option (Bool)
 | 0, _, _ => none
 | k + 1, x0, x3 => if x3 < (x0.size : Int) then (if 0 ≤ x3 then ((garmentref27_capital.f (bt x0 x3)).bind fun t122 => (if t122 = true then (garmentref27_id.j2 k x0 x3 false) else ((garmentref27_digit.f (bt x0 x3)).bind fun t123 => (if t123 = true then (garmentref27_id.j2 k x0 x3 false) else (if (bt x0 x3) ≥ 97 then (garmentref27_id.j2 k x0 x3 (!(decide ((bt x0 x3) ≤ 122)))) else (garmentref27_id.j2 k x0 x3 (!false))))))) else (none)) else (some true)
def garmentref27_id.j2 : Nat → ByteArray → Int → Bool → Option (Bool)
 | 0, _, _, _ => none
 | k + 1, x0, x3, x47 => if x47 = true then (some false) else (garmentref27_id.l0 k x0 (wrap64 (x3 + 1)))
end
def garmentref27_id.f (k : Nat) (a0 : ByteArray) : Option (Bool) := if a0.toList = ([] : List UInt8) then (garmentref27_id.j0 k a0 true) else (if (a0.size : Int) > 8 then (garmentref27_id.j0 k a0 true) else (if 0 < (a0.size : Int) then ((garmentref27_capital.f (bt a0 0)).bind fun t121 => (garmentref27_id.j0 k a0 (!t121))) else (none)))
theorem garmentref27_id.mono_l : ∀ k, (∀ y0 y1, LeO (garmentref27_id.j0 k y0 y1) (garmentref27_id.j0 (k + 1) y0 y1)) ∧ (∀ y0 y1, LeO (garmentref27_id.l0 k y0 y1) (garmentref27_id.l0 (k + 1) y0 y1)) ∧ (∀ y0 y1 y2, LeO (garmentref27_id.j2 k y0 y1 y2) (garmentref27_id.j2 (k + 1) y0 y1 y2))
 | 0 => ⟨fun _ _ r h => by simp [garmentref27_id.j0] at h, fun _ _ r h => by simp [garmentref27_id.l0] at h, fun _ _ _ r h => by simp [garmentref27_id.j2] at h⟩
 | k + 1 => by
  obtain ⟨ih0, ih1, ih2⟩ := garmentref27_id.mono_l k
  refine ⟨?_, ?_, ?_⟩
  ·intro y0 y1
   unfold garmentref27_id.j0
   repeat' first
   | (with_reducible exact ih0 _ _)
   | (with_reducible exact ih1 _ _)
   | (with_reducible exact ih2 _ _ _)
   | (with_reducible exact LeO.refl _)
   | (with_reducible exact LeO.none _)
   | (with_reducible refine LeO.ite ?_ ?_)
   | (with_reducible refine LeO.bind ?_ (fun _ => ?_))
   | exact ih0 _ _
   | exact ih1 _ _
   | exact ih2 _ _ _
   | exact LeO.none _
   | refine LeO.ite ?_ ?_
   | refine LeO.bind ?_ (fun _ => ?_)
  ·intro y0 y1
   unfold garmentref27_id.l0
   repeat' first
   | (with_reducible exact ih0 _ _)
   | (with_reducible exact ih1 _ _)
   | (with_reducible exact ih2 _ _ _)
   | (with_reducible exact LeO.refl _)
   | (with_reducible exact LeO.none _)
   | (with_reducible refine LeO.ite ?_ ?_)
   | (with_reducible refine LeO.bind ?_ (fun _ => ?_))
   | exact ih0 _ _
   | exact ih1 _ _
   | exact ih2 _ _ _
   | exact LeO.none _
   | refine LeO.ite ?_ ?_
   | refine LeO.bind ?_ (fun _ => ?_)
  ·intro y0 y1 y2
   unfold garmentref27_id.j2
   repeat' first
   | (with_reducible exact ih0 _ _)
   | (with_reducible exact ih1 _ _)
   | (with_reducible exact ih2 _ _ _)
   | (with_reducible exact LeO.refl _)
   | (with_reducible exact LeO.none _)
   | (with_reducible refine LeO.ite ?_ ?_)
   | (with_reducible refine LeO.bind ?_ (fun _ => ?_))
   | exact ih0 _ _
   | exact ih1 _ _
   | exact ih2 _ _ _
   | exact LeO.none _
   | refine LeO.ite ?_ ?_
   | refine LeO.bind ?_ (fun _ => ?_)
theorem garmentref27_id.mono : ∀ a0 k, LeO (garmentref27_id.f k a0) (garmentref27_id.f (k + 1) a0) := by
 intro a0 k; obtain ⟨ih0, ih1, ih2⟩ := garmentref27_id.mono_l k
 unfold garmentref27_id.f
 repeat' first
  | (with_reducible exact ih0 _ _)
  | (with_reducible exact ih1 _ _)
  | (with_reducible exact ih2 _ _ _)
  | (with_reducible exact LeO.refl _)
  | (with_reducible exact LeO.none _)
  | (with_reducible refine LeO.ite ?_ ?_)
  | (with_reducible refine LeO.bind ?_ (fun _ => ?_))
  | exact ih0 _ _
  | exact ih1 _ _
  | exact ih2 _ _ _
  | exact LeO.none _
  | refine LeO.ite ?_ ?_
  | refine LeO.bind ?_ (fun _ => ?_)
set_option maxHeartbeats 8000000 in
set_option maxRecDepth 100000 in
theorem garmentref27_id.calls (k : Nat) (a0 : ByteArray) (r : Bool) (w : World) (h : garmentref27_id.f k a0 = some r) :
  Calls Tryz.prog 27 #[.string a0] w fun e w' => e = .returned (.bool r) ∧ Drawn0 w w' := by
 have H : (if a0.toList = ([] : List UInt8) then (garmentref27_id.j0 k a0 true) else (if (a0.size : Int) > 8 then (garmentref27_id.j0 k a0 true) else (if 0 < (a0.size : Int) then ((garmentref27_capital.f (bt a0 0)).bind fun t121 => (garmentref27_id.j0 k a0 (!t121))) else (none)))) = some r := h; clear h; have HC2 := Aside0.mk H; clear H
 go_enter Tryz.func27, Tryz.ntmps27
 go_upto_region 1 with (fail)
 go_cut [16] (fun v16 wc => ∃ (kq : Nat) (x16_1 : Bool), v16 = .bool x16_1 ∧ Aside0 (garmentref27_id.j0 kq a0 x16_1 = some r) ∧ Aside0 (kq ≤ k) ∧ Drawn0 w wc)
 case first =>
  have H := HC2.out; clear HC2
  by_cases c3 : a0.toList = ([] : List UInt8)
  ·rw [if_pos c3] at H; have c3b0 : (a0.toList == ([] : List UInt8)) = true := beq_iff_eq.mpr c3; have c3b1 : (a0.toList != ([] : List UInt8)) = false := bne_eq_false_iff_eq.mpr c3; clear c3
   (first | rw [c3b0] | (simp only [i64_w, i32_w]; rw [c3b0]) | skip)
   have H' := Aside0.mk H; clear H
   go_wp2
   go_meet
   case rel => exact ⟨_, (true), (by first | rfl | (simp; done) | (simp [*]; done)), H', ⟨by first | omega | exact Nat.le_refl _⟩, by repeat (first | exact Drawn0.refl _ | apply Drawn0.step)⟩
  ·rw [if_neg c3] at H; have c3b0 : (a0.toList == ([] : List UInt8)) = false := beq_eq_false_iff_ne.mpr c3; have c3b1 : (a0.toList != ([] : List UInt8)) = true := bne_iff_ne.mpr c3
   (first | rw [c3b0] | (simp only [i64_w, i32_w]; rw [c3b0]) | skip)
   by_cases c4 : (a0.size : Int) > 8
   ·rw [if_pos c4] at H; have c4b0 : decide (8 < (a0.size : Int)) = true := decide_eq_true c4; have c4b1 : decide (8 < a0.size) = true := decide_eq_true (by omega); clear c4; have H' := Aside0.mk H; clear H
    go_wp2
    go_meet
    case rel => exact ⟨_, (true), (by first | rfl | (simp; done) | (simp [*]; done)), H', ⟨by first | omega | exact Nat.le_refl _⟩, by repeat (first | exact Drawn0.refl _ | apply Drawn0.step)⟩
   ·rw [if_neg c4] at H; have c4b0 : decide (8 < (a0.size : Int)) = false := decide_eq_false c4; have c4b1 : decide (8 < a0.size) = false := decide_eq_false (by omega); clear c4
    by_cases c5 : 0 < (a0.size : Int)
    ·rw [if_pos c5] at H; have c5b0 : decide (0 < (a0.size : Int)) = true := decide_eq_true c5; have c5b1 : decide (0 < a0.size) = true := decide_eq_true (by omega); clear c5; replace H := Option.bind_eq_some_iff.mp H; obtain ⟨t121, A70, H⟩ := H; replace H : (garmentref27_id.j0 k a0 (!t121)) = some r := H; have A7 := Aside0.mk A70; clear A70; have H' := Aside0.mk H; clear H; have p6 : 0 ≤ (0 : Int) := (by omega); have q6 : 0 < a0.size := (by have : (0 : Int) < (a0.size : Int) := oda; omega); have hx6 : ∀ h : 0 < a0.size, ((a0[0]'h).toNat : Int) = bt a0 0 := bt_at a0 0; clear p6; have qi6 : (0 < (a0.size : Int)) = True := eq_true (oda); replace q6 := eq_true q6
     go_wp2_with (first | (go_at_call 47; (with_reducible refine (garmentref27_capital.calls (bt a0 0) t121 _ A7.out).mono ?_); rintro e w' ⟨rfl, ⟨nd, rfl⟩⟩))
     go_meet
     case rel => exact ⟨_, (!t121), (by first | rfl | (simp; done) | (simp [*]; done)), H', ⟨by first | omega | exact Nat.le_refl _⟩, by repeat (first | exact Drawn0.refl _ | apply Drawn0.step)⟩
    ·rw [if_neg c5] at H; exact absurd H (by simp)
 case rest =>
  clear HC2
  try clear c2
  try clear p2
  try clear c3
  try clear c3b0
  try clear c3b1
  try clear c4
  try clear c4b0
  try clear c4b1
  try clear c5
  try clear c5b0
  try clear c5b1
  try clear p6
  try clear q6
  try clear hx6
  try clear qi6
  try clear p6
  try clear q6
  obtain ⟨kq, x16_1, rfl, HA, HJ1, ⟨mc1, rfl⟩⟩ := hcut
  cases kq with
  | zero => exact absurd HA.out (by simp [garmentref27_id.j0])
  | succ kj1 =>
   have H := HA.out; clear HA; simp only [garmentref27_id.j0] at H
   by_cases c8 : x16_1 = true
   ·subst c8
    have H1 : (some false) = some r := by rw [if_pos rfl] at H; exact H
    clear H; have H := H1; clear H1; obtain rfl := Option.some.inj H
    go_wp2
    go_ret
    exact ⟨by first | rfl | (simp; done) | (simp [*]; done), by repeat (first | exact Drawn0.refl _ | apply Drawn0.step)⟩
   ·replace c8 := Bool.eq_false_iff.mpr c8; subst c8
    have H1 : (garmentref27_id.l0 kj1 a0 1) = some r := by rw [if_neg (show ¬ (false = true) by decide)] at H; exact H
    clear H; have H := H1; clear H1; have H' := Aside0.mk H; clear H
    go_wp2
    go_loopg [3] kj1 (fun kq v3 w' => ∃ (x3_2 : Int), v3 = .int .i64 x3_2 ∧ Aside0 (garmentref27_id.l0 kq a0 x3_2 = some r) ∧ Aside0 (kq ≤ kj1) ∧ Drawn0 w w')
    case atStart => exact ⟨(1), (by first | rfl | (simp; done) | (simp [*]; done)), H', ⟨Nat.le_refl _⟩, by repeat (first | exact Drawn0.refl _ | apply Drawn0.step)⟩
    case round =>
     clear H'
     try clear c1
     try clear c2
     try clear p2
     try clear c3
     try clear c3b0
     try clear c3b1
     try clear c4
     try clear c4b0
     try clear c4b1
     try clear c5
     try clear c5b0
     try clear c5b1
     try clear p6
     try clear q6
     try clear hx6
     try clear qi6
     try clear c8
     try clear p2
     try clear p6
     try clear q6
     obtain ⟨x3_2, rfl, HA, HK2, ⟨m2, rfl⟩⟩ := hrel
     cases gk with
     | zero => exact absurd HA.out (by simp [garmentref27_id.l0])
     | succ k2 =>
      have H := HA.out; clear HA; simp only [garmentref27_id.l0] at H
      by_cases c9 : x3_2 < (a0.size : Int)
      ·rw [if_pos c9] at H; have c9b0 : decide (x3_2 < (a0.size : Int)) = true := decide_eq_true c9; clear c9; have HC10 := Aside0.mk H; clear H
       go_upto_region 6 with (fail)
       go_cut [47] (fun v47 wc => ∃ (kq : Nat) (x47_9 : Bool), v47 = .bool x47_9 ∧ Aside0 (garmentref27_id.j2 kq a0 x3_2 x47_9 = some r) ∧ Aside0 (kq ≤ k2) ∧ Drawn0 w wc)
       case first =>
        have H := HC10.out; clear HC10
        by_cases c11 : 0 ≤ x3_2
        ·rw [if_pos c11] at H; have c11b0 : decide (0 ≤ x3_2) = true := decide_eq_true c11; clear c11
         (first | rw [c11b0] | (simp only [i64_w, i32_w]; rw [c11b0]) | skip)
         replace H := Option.bind_eq_some_iff.mp H; obtain ⟨t122, A130, H⟩ := H; replace H : (if t122 = true then (garmentref27_id.j2 k2 a0 x3_2 false) else ((garmentref27_digit.f (bt a0 x3_2)).bind fun t123 => (if t123 = true then (garmentref27_id.j2 k2 a0 x3_2 false) else (if (bt a0 x3_2) ≥ 97 then (garmentref27_id.j2 k2 a0 x3_2 (!(decide ((bt a0 x3_2) ≤ 122)))) else (garmentref27_id.j2 k2 a0 x3_2 (!false)))))) = some r := H; have A13 := Aside0.mk A130; clear A130
         by_cases c14 : t122 = true
         ·subst c14
          have H1 : (garmentref27_id.j2 k2 a0 x3_2 false) = some r := by rw [if_pos rfl] at H; exact H
          clear H; have H := H1; clear H1; have H' := Aside0.mk H; clear H; have p12 : 0 ≤ (x3_2 : Int) := oda; have q12 : x3_2 < (a0.size : Int) := oda; have hx12 := bt_at a0 x3_2; replace p12 := eq_true p12; replace q12 := eq_true q12
          go_wp2_with (first | ((with_reducible refine gate_callee (f := 47) rfl ?_); refine goesA (some 26) rfl rfl Tryz.func47 (by kernel_rfl) rfl #[.int .u8 (bt a0 x3_2)] rfl ?_; (with_reducible refine (garmentref27_capital.calls (bt a0 x3_2) true _ A13.out).mono ?_); rintro e w' ⟨rfl, ⟨nd, rfl⟩⟩; refine ⟨_, rfl, ?_⟩))
          go_meet
          case rel => exact ⟨_, (false), (by first | rfl | (simp; done) | (simp [*]; done)), H', ⟨by have := HJ1.out; have := HK2.out; first | omega | exact Nat.le_refl _⟩, by repeat (first | exact Drawn0.refl _ | apply Drawn0.step)⟩
         ·replace c14 := Bool.eq_false_iff.mpr c14; subst c14
          have H1 : ((garmentref27_digit.f (bt a0 x3_2)).bind fun t123 => (if t123 = true then (garmentref27_id.j2 k2 a0 x3_2 false) else (if (bt a0 x3_2) ≥ 97 then (garmentref27_id.j2 k2 a0 x3_2 (!(decide ((bt a0 x3_2) ≤ 122)))) else (garmentref27_id.j2 k2 a0 x3_2 (!false))))) = some r := by rw [if_neg (show ¬ (false = true) by decide)] at H; exact H
          clear H; have H := H1; clear H1; replace H := Option.bind_eq_some_iff.mp H; obtain ⟨t123, A160, H⟩ := H; replace H : (if t123 = true then (garmentref27_id.j2 k2 a0 x3_2 false) else (if (bt a0 x3_2) ≥ 97 then (garmentref27_id.j2 k2 a0 x3_2 (!(decide ((bt a0 x3_2) ≤ 122)))) else (garmentref27_id.j2 k2 a0 x3_2 (!false)))) = some r := H; have A16 := Aside0.mk A160; clear A160
          by_cases c17 : t123 = true
          ·subst c17
           have H1 : (garmentref27_id.j2 k2 a0 x3_2 false) = some r := by rw [if_pos rfl] at H; exact H
           clear H; have H := H1; clear H1; have H' := Aside0.mk H; clear H; have p12 : 0 ≤ (x3_2 : Int) := oda; have q12 : x3_2 < (a0.size : Int) := oda; have hx12 := bt_at a0 x3_2; replace p12 := eq_true p12; replace q12 := eq_true q12
           go_wp2_with (first | ((with_reducible refine gate_callee (f := 47) rfl ?_); refine goesA (some 26) rfl rfl Tryz.func47 (by kernel_rfl) rfl #[.int .u8 (bt a0 x3_2)] rfl ?_; (with_reducible refine (garmentref27_capital.calls (bt a0 x3_2) false _ A13.out).mono ?_); rintro e w' ⟨rfl, ⟨nd, rfl⟩⟩; refine ⟨_, rfl, ?_⟩; have p15 : 0 ≤ (x3_2 : Int) := oda; have q15 : x3_2 < (a0.size : Int) := oda; have hx15 := bt_at a0 x3_2; replace p15 := eq_true p15; replace q15 := eq_true q15) | (go_at_call 48; (with_reducible refine (garmentref27_digit.calls (bt a0 x3_2) true _ A16.out).mono ?_); rintro e w' ⟨rfl, ⟨nd, rfl⟩⟩))
           go_meet
           case rel => exact ⟨_, (false), (by first | rfl | (simp; done) | (simp [*]; done)), H', ⟨by have := HJ1.out; have := HK2.out; first | omega | exact Nat.le_refl _⟩, by repeat (first | exact Drawn0.refl _ | apply Drawn0.step)⟩
          ·replace c17 := Bool.eq_false_iff.mpr c17; subst c17
           have H1 : (if (bt a0 x3_2) ≥ 97 then (garmentref27_id.j2 k2 a0 x3_2 (!(decide ((bt a0 x3_2) ≤ 122)))) else (garmentref27_id.j2 k2 a0 x3_2 (!false))) = some r := by rw [if_neg (show ¬ (false = true) by decide)] at H; exact H
           clear H; have H := H1; clear H1
           by_cases c19 : (bt a0 x3_2) ≥ 97
           ·rw [if_pos c19] at H; have c19b0 : decide (97 ≤ (bt a0 x3_2)) = true := decide_eq_true c19; clear c19; have H' := Aside0.mk H; clear H; have p12 : 0 ≤ (x3_2 : Int) := oda; have q12 : x3_2 < (a0.size : Int) := oda; have hx12 := bt_at a0 x3_2; replace p12 := eq_true p12; replace q12 := eq_true q12
            go_wp2_with (first | ((with_reducible refine gate_callee (f := 47) rfl ?_); refine goesA (some 26) rfl rfl Tryz.func47 (by kernel_rfl) rfl #[.int .u8 (bt a0 x3_2)] rfl ?_; (with_reducible refine (garmentref27_capital.calls (bt a0 x3_2) false _ A13.out).mono ?_); rintro e w' ⟨rfl, ⟨nd, rfl⟩⟩; refine ⟨_, rfl, ?_⟩; have p15 : 0 ≤ (x3_2 : Int) := oda; have q15 : x3_2 < (a0.size : Int) := oda; have hx15 := bt_at a0 x3_2; replace p15 := eq_true p15; replace q15 := eq_true q15) | (go_at_call 48; (with_reducible refine (garmentref27_digit.calls (bt a0 x3_2) false _ A16.out).mono ?_); rintro e w' ⟨rfl, ⟨nd, rfl⟩⟩; have p18 : 0 ≤ (x3_2 : Int) := oda; have q18 : x3_2 < (a0.size : Int) := oda; have hx18 := bt_at a0 x3_2; replace p18 := eq_true p18; replace q18 := eq_true q18; have p20 : 0 ≤ (x3_2 : Int) := oda; have q20 : x3_2 < (a0.size : Int) := oda; have hx20 := bt_at a0 x3_2; replace p20 := eq_true p20; replace q20 := eq_true q20))
            go_meet
            case rel => exact ⟨_, (!(decide ((bt a0 x3_2) ≤ 122))), (by first | rfl | (simp; done) | (simp [*]; done)), H', ⟨by have := HJ1.out; have := HK2.out; first | omega | exact Nat.le_refl _⟩, by repeat (first | exact Drawn0.refl _ | apply Drawn0.step)⟩
           ·rw [if_neg c19] at H; have c19b0 : decide (97 ≤ (bt a0 x3_2)) = false := decide_eq_false c19; clear c19; have H' := Aside0.mk H; clear H; have p12 : 0 ≤ (x3_2 : Int) := oda; have q12 : x3_2 < (a0.size : Int) := oda; have hx12 := bt_at a0 x3_2; replace p12 := eq_true p12; replace q12 := eq_true q12
            go_wp2_with (first | ((with_reducible refine gate_callee (f := 47) rfl ?_); refine goesA (some 26) rfl rfl Tryz.func47 (by kernel_rfl) rfl #[.int .u8 (bt a0 x3_2)] rfl ?_; (with_reducible refine (garmentref27_capital.calls (bt a0 x3_2) false _ A13.out).mono ?_); rintro e w' ⟨rfl, ⟨nd, rfl⟩⟩; refine ⟨_, rfl, ?_⟩; have p15 : 0 ≤ (x3_2 : Int) := oda; have q15 : x3_2 < (a0.size : Int) := oda; have hx15 := bt_at a0 x3_2; replace p15 := eq_true p15; replace q15 := eq_true q15) | (go_at_call 48; (with_reducible refine (garmentref27_digit.calls (bt a0 x3_2) false _ A16.out).mono ?_); rintro e w' ⟨rfl, ⟨nd, rfl⟩⟩; have p18 : 0 ≤ (x3_2 : Int) := oda; have q18 : x3_2 < (a0.size : Int) := oda; have hx18 := bt_at a0 x3_2; replace p18 := eq_true p18; replace q18 := eq_true q18))
            go_meet
            case rel => exact ⟨_, (!false), (by first | rfl | (simp; done) | (simp [*]; done)), H', ⟨by have := HJ1.out; have := HK2.out; first | omega | exact Nat.le_refl _⟩, by repeat (first | exact Drawn0.refl _ | apply Drawn0.step)⟩
        ·rw [if_neg c11] at H; exact absurd H (by simp)
       case rest =>
        clear HC10
        try clear c1
        try clear p1
        try clear q1
        try clear hx1
        try clear c2
        try clear p2
        try clear q2
        try clear hx2
        try clear c3
        try clear c3b0
        try clear c3b1
        try clear c4
        try clear c4b0
        try clear c4b1
        try clear c5
        try clear c5b0
        try clear c5b1
        try clear p6
        try clear q6
        try clear hx6
        try clear qi6
        try clear c8
        try clear c9
        try clear c9b0
        try clear c11
        try clear c11b0
        try clear p12
        try clear q12
        try clear hx12
        try clear c14
        try clear p15
        try clear q15
        try clear hx15
        try clear c17
        try clear p18
        try clear q18
        try clear hx18
        try clear c19
        try clear c19b0
        try clear p20
        try clear q20
        try clear hx20
        try clear p12
        try clear p15
        try clear p18
        try clear p2
        try clear p20
        try clear p6
        try clear q12
        try clear q15
        try clear q18
        try clear q20
        try clear q6
        obtain ⟨kq, x47_9, rfl, HA, HJ9, ⟨mc9, rfl⟩⟩ := hcut
        cases kq with
        | zero => exact absurd HA.out (by simp [garmentref27_id.j2])
        | succ kj9 =>
         have H := HA.out; clear HA; simp only [garmentref27_id.j2] at H
         by_cases c21 : x47_9 = true
         ·subst c21
          have H1 : (some false) = some r := by rw [if_pos rfl] at H; exact H
          clear H; have H := H1; clear H1; obtain rfl := Option.some.inj H
          go_wp2
          go_ret
          exact ⟨by first | rfl | (simp; done) | (simp [*]; done), by repeat (first | exact Drawn0.refl _ | apply Drawn0.step)⟩
         ·replace c21 := Bool.eq_false_iff.mpr c21; subst c21
          have H1 : (garmentref27_id.l0 kj9 a0 (wrap64 (x3_2 + 1))) = some r := by rw [if_neg (show ¬ (false = true) by decide)] at H; exact H
          clear H; have H := H1; clear H1; have H' := Aside0.mk H; clear H
          go_wp2
          go_roundg kj9
          case measure => have := HJ1.out; have := HK2.out; have := HJ9.out; omega
          case rel => exact ⟨(wrap64 (x3_2 + 1)), (by first | rfl | (simp; done) | (simp [*]; done)), H', ⟨by have := HJ1.out; have := HK2.out; have := HJ9.out; omega⟩, by repeat (first | exact Drawn0.refl _ | apply Drawn0.step)⟩
      ·rw [if_neg c9] at H; have c9b0 : decide (x3_2 < (a0.size : Int)) = false := decide_eq_false c9; clear c9; obtain rfl := Option.some.inj H
       go_wp2
       go_ret
       exact ⟨by first | rfl | (simp; done) | (simp [*]; done), by repeat (first | exact Drawn0.refl _ | apply Drawn0.step)⟩

end Go.Proofs.YtdblkmnbkpphjaaGreatDoor.P
namespace Go.Proofs.YtdblkmnbkpphjaaGreatDoor.P
open Go.RowKit Go.Proofs.YtdblkmnbkpphjaaGreatDoorW.PrintWords Go.Proofs.YtdblkmnbkpphjaaGreatDoorW.PrintLast Go.Proofs.YtdblkmnbkpphjaaGreatDoorW.PrintMore Go.Proofs.YtdblkmnbkpphjaaGreatDoorW.PrintAuto
attribute [local go_sem] max2_int min2_int max_two min_two max_three min_three max_four min_four   -- for this text's walks alone
set_option linter.unusedVariables false
set_option linter.unusedSimpArgs false

def garmentref27_in.f (a0 : Int) (a1 : Int) (a2 : Int) : Option (Bool) := if a0 ≥ a1 then (some (decide (a0 ≤ a2))) else (some false)
set_option maxHeartbeats 8000000 in
set_option maxRecDepth 100000 in
theorem garmentref27_in.calls (a0 : Int) (a1 : Int) (a2 : Int) (r : Bool) (w : World) (h : garmentref27_in.f a0 a1 a2 = some r) :
  Calls Tryz.prog 28 #[.int .i64 a0, .int .i64 a1, .int .i64 a2] w fun e w' => e = .returned (.bool r) ∧ Drawn0 w w' := by
 have H : (if a0 ≥ a1 then (some (decide (a0 ≤ a2))) else (some false)) = some r := h; clear h
 by_cases c4 : a0 ≥ a1
 ·rw [if_pos c4] at H; have c4b0 : decide (a1 ≤ a0) = true := decide_eq_true c4; clear c4; obtain rfl := Option.some.inj H
  go_enter Tryz.func28, Tryz.ntmps28
  go_wp2
  go_ret
  exact ⟨by first | rfl | (simp; done) | (simp [*]; done), by repeat (first | exact Drawn0.refl _ | apply Drawn0.step)⟩
 ·rw [if_neg c4] at H; have c4b0 : decide (a1 ≤ a0) = false := decide_eq_false c4; clear c4; obtain rfl := Option.some.inj H
  go_enter Tryz.func28, Tryz.ntmps28
  go_wp2
  go_ret
  exact ⟨by first | rfl | (simp; done) | (simp [*]; done), by repeat (first | exact Drawn0.refl _ | apply Drawn0.step)⟩

end Go.Proofs.YtdblkmnbkpphjaaGreatDoor.P
namespace Go.Proofs.YtdblkmnbkpphjaaGreatDoor.P
open Go.RowKit Go.Proofs.YtdblkmnbkpphjaaGreatDoorW.PrintWords Go.Proofs.YtdblkmnbkpphjaaGreatDoorW.PrintLast Go.Proofs.YtdblkmnbkpphjaaGreatDoorW.PrintMore Go.Proofs.YtdblkmnbkpphjaaGreatDoorW.PrintAuto
attribute [local go_sem] max2_int min2_int max_two min_two max_three min_three max_four min_four   -- for this text's walks alone
set_option linter.unusedVariables false
set_option linter.unusedSimpArgs false

def garmentref27_fits.f (a0_0 : Int) (a0_1 : Int) (a0_2 : Int) (a0_3 : Int) (a1_0 : ByteArray) (a1_1 : Int) (a1_2 : Int) (a1_3 : Int) (a1_4 : Int) (a1_5 : Int) (l1_6 : List (S46)) : Option (Bool) := (garmentref27_in.f a0_0 0 a1_2).bind fun t126 => (if t126 = true then ((garmentref27_in.f a0_1 0 a1_1).bind fun t127 => (if t127 = true then ((garmentref27_in.f a0_2 1 (wrap64 (a1_2 - a0_0))).bind fun t128 => (if t128 = true then ((garmentref27_in.f a0_3 1 (wrap64 (a1_1 - a0_1))).bind fun t129 => (some t129)) else (some false))) else (some false))) else (some false))
set_option maxHeartbeats 8000000 in
set_option maxRecDepth 100000 in
theorem garmentref27_fits.calls (a0_0 : Int) (a0_1 : Int) (a0_2 : Int) (a0_3 : Int) (a1_0 : ByteArray) (a1_1 : Int) (a1_2 : Int) (a1_3 : Int) (a1_4 : Int) (a1_5 : Int) (A1_6 : Option Addr) (c1_6 : Nat) (l1_6 : List (S46)) (r : Bool) (w : World) (hr1_6 : Kd.C k46 w A1_6 l1_6.length l1_6) (hc1_6 : l1_6.length ≤ c1_6) (h : garmentref27_fits.f a0_0 a0_1 a0_2 a0_3 a1_0 a1_1 a1_2 a1_3 a1_4 a1_5 l1_6 = some r) :
  Calls Tryz.prog 29 #[.agg #[.int .i64 a0_0, .int .i64 a0_1, .int .i64 a0_2, .int .i64 a0_3], .agg #[.string a1_0, .int .i64 a1_1, .int .i64 a1_2, .int .i64 a1_3, .int .i64 a1_4, .int .i64 a1_5, .slice A1_6 l1_6.length c1_6]] w fun e w' => e = .returned (.bool r) ∧ Below w.heap.size w w' := by
 have hu46 := Tryz.underlying46; have hu26 := Tryz.underlying26; have HR1_6 := Aside0.mk hr1_6; have HC1_6 := Aside0.mk hc1_6; clear hr1_6 hc1_6; have HB := Aside0.mk (Below.refl w.heap.size w); have H : ((garmentref27_in.f a0_0 0 a1_2).bind fun t126 => (if t126 = true then ((garmentref27_in.f a0_1 0 a1_1).bind fun t127 => (if t127 = true then ((garmentref27_in.f a0_2 1 (wrap64 (a1_2 - a0_0))).bind fun t128 => (if t128 = true then ((garmentref27_in.f a0_3 1 (wrap64 (a1_1 - a0_1))).bind fun t129 => (some t129)) else (some false))) else (some false))) else (some false))) = some r := h; clear h; replace H := Option.bind_eq_some_iff.mp H; obtain ⟨t126, A30, H⟩ := H; replace H : (if t126 = true then ((garmentref27_in.f a0_1 0 a1_1).bind fun t127 => (if t127 = true then ((garmentref27_in.f a0_2 1 (wrap64 (a1_2 - a0_0))).bind fun t128 => (if t128 = true then ((garmentref27_in.f a0_3 1 (wrap64 (a1_1 - a0_1))).bind fun t129 => (some t129)) else (some false))) else (some false))) else (some false)) = some r := H; have A3 := Aside0.mk A30; clear A30
 by_cases c4 : t126 = true
 ·subst c4
  have H1 : ((garmentref27_in.f a0_1 0 a1_1).bind fun t127 => (if t127 = true then ((garmentref27_in.f a0_2 1 (wrap64 (a1_2 - a0_0))).bind fun t128 => (if t128 = true then ((garmentref27_in.f a0_3 1 (wrap64 (a1_1 - a0_1))).bind fun t129 => (some t129)) else (some false))) else (some false))) = some r := by rw [if_pos rfl] at H; exact H
  clear H; have H := H1; clear H1; replace H := Option.bind_eq_some_iff.mp H; obtain ⟨t127, A50, H⟩ := H; replace H : (if t127 = true then ((garmentref27_in.f a0_2 1 (wrap64 (a1_2 - a0_0))).bind fun t128 => (if t128 = true then ((garmentref27_in.f a0_3 1 (wrap64 (a1_1 - a0_1))).bind fun t129 => (some t129)) else (some false))) else (some false)) = some r := H; have A5 := Aside0.mk A50; clear A50
  by_cases c6 : t127 = true
  ·subst c6
   have H1 : ((garmentref27_in.f a0_2 1 (wrap64 (a1_2 - a0_0))).bind fun t128 => (if t128 = true then ((garmentref27_in.f a0_3 1 (wrap64 (a1_1 - a0_1))).bind fun t129 => (some t129)) else (some false))) = some r := by rw [if_pos rfl] at H; exact H
   clear H; have H := H1; clear H1; replace H := Option.bind_eq_some_iff.mp H; obtain ⟨t128, A70, H⟩ := H; replace H : (if t128 = true then ((garmentref27_in.f a0_3 1 (wrap64 (a1_1 - a0_1))).bind fun t129 => (some t129)) else (some false)) = some r := H; have A7 := Aside0.mk A70; clear A70
   by_cases c8 : t128 = true
   ·subst c8
    have H1 : ((garmentref27_in.f a0_3 1 (wrap64 (a1_1 - a0_1))).bind fun t129 => (some t129)) = some r := by rw [if_pos rfl] at H; exact H
    clear H; have H := H1; clear H1; replace H := Option.bind_eq_some_iff.mp H; obtain ⟨t129, A90, H⟩ := H; replace H : (some t129) = some r := H; have A9 := Aside0.mk A90; clear A90; obtain rfl := Option.some.inj H
    go_enter Tryz.func29, Tryz.ntmps29
    go_wp2_with (first | ((with_reducible refine gate_dst (N := 2) rfl ?_); refine box_event ?hg (N := 2) ?hd (cs := #[.int .i64 a0_0, .int .i64 a0_1, .int .i64 a0_2, .int .i64 a0_3]) (t := 46) ?hr ?_; (case hd => rfl); (case hg => rfl); (case hr => first | (go_simp; done) | (go_simp; rfl)); intro gb124 hg w10 hbox hb; have BK124 := Aside0.mk (hbox); have GW124 := Aside0.mk ((by rw [hg]; exact (below_size (be HB.out)) : w.heap.size ≤ gb124)); have GE124 := Aside0.mk ((by rw [hg]; exact (below_size (be HB.out)) : w.heap.size ≤ gb124)); replace HB := Aside0.mk (below_step (be HB.out) hb); clear hb hbox hg) | ((with_reducible refine gate_dst (N := 3) rfl ?_); refine box_event ?hg (N := 3) ?hd (cs := #[.string a1_0, .int .i64 a1_1, .int .i64 a1_2, .int .i64 a1_3, .int .i64 a1_4, .int .i64 a1_5, .slice A1_6 l1_6.length c1_6]) (t := 26) ?hr ?_; (case hd => rfl); (case hg => rfl); (case hr => first | (go_simp; done) | (go_simp; rfl)); intro gb125 hg w11 hbox hb; have BK125 := Aside0.mk (hbox); have GW125 := Aside0.mk ((by rw [hg]; exact (below_size (be HB.out)) : w.heap.size ≤ gb125)); have GE125 := Aside0.mk ((by rw [hg]; exact (below_size (be HB.out)) : w.heap.size ≤ gb125)); have NB124_125 := Aside0.mk ((by rw [hg]; exact Nat.ne_of_lt (blk_lt (g := gb124) (o := .cells #[.int .i64 a0_0, .int .i64 a0_1, .int .i64 a0_2, .int .i64 a0_3] 46 (0, 0)) (bu BK124.out)) : gb124 ≠ gb125)); have NB125_124 := Aside0.mk ((by rw [hg]; exact Nat.ne_of_gt (blk_lt (g := gb124) (o := .cells #[.int .i64 a0_0, .int .i64 a0_1, .int .i64 a0_2, .int .i64 a0_3] 46 (0, 0)) (bu BK124.out)) : gb125 ≠ gb124)); replace BK124 := Aside0.mk (blk_below (bu BK124.out) hb); replace HB := Aside0.mk (below_step (be HB.out) hb); clear hb hbox hg; have hnb12 := NB124_125.out; have hnc12 := NB125_124.out; have hcz13_0 := bc BK124.out 0 (.int .i64 a0_0) rfl; have hcz13_1 := bc BK124.out 1 (.int .i64 a0_1) rfl; have hcz13_2 := bc BK124.out 2 (.int .i64 a0_2) rfl; have hcz13_3 := bc BK124.out 3 (.int .i64 a0_3) rfl; have hfz13_0 := blk_frozen BK124.out 0; have hfz13_1 := blk_frozen BK124.out 1; have hfz13_2 := blk_frozen BK124.out 2; have hfz13_3 := blk_frozen BK124.out 3; have hcz14_0 := bc BK125.out 0 (.string a1_0) rfl; have hcz14_1 := bc BK125.out 1 (.int .i64 a1_1) rfl; have hcz14_2 := bc BK125.out 2 (.int .i64 a1_2) rfl; have hcz14_3 := bc BK125.out 3 (.int .i64 a1_3) rfl; have hcz14_4 := bc BK125.out 4 (.int .i64 a1_4) rfl; have hcz14_5 := bc BK125.out 5 (.int .i64 a1_5) rfl; have hcz14_6 := bc BK125.out 6 (.slice A1_6 l1_6.length c1_6) rfl; have hfz14_0 := blk_frozen BK125.out 0; have hfz14_1 := blk_frozen BK125.out 1; have hfz14_2 := blk_frozen BK125.out 2; have hfz14_3 := blk_frozen BK125.out 3; have hfz14_4 := blk_frozen BK125.out 4; have hfz14_5 := blk_frozen BK125.out 5; have hfz14_6 := blk_frozen BK125.out 6) | ((with_reducible refine gate_callee (f := 28) rfl ?_); refine goesA (some 9) rfl rfl Tryz.func28 (by kernel_rfl) rfl #[.int .i64 a0_0, .int .i64 0, .int .i64 a1_2] rfl ?_; (with_reducible refine (garmentref27_in.calls a0_0 0 a1_2 true _ A3.out).mono ?_); rintro e w' ⟨rfl, ⟨nd, rfl⟩⟩; refine ⟨_, rfl, ?_⟩) | (go_at_call 28; (with_reducible refine (garmentref27_in.calls a0_1 0 a1_1 true _ A5.out).mono ?_); rintro e w' ⟨rfl, ⟨nd, rfl⟩⟩) | (go_at_call 28; (with_reducible refine (garmentref27_in.calls a0_2 1 (wrap64 (a1_2 - a0_0)) true _ A7.out).mono ?_); rintro e w' ⟨rfl, ⟨nd, rfl⟩⟩) | (go_at_call 28; (with_reducible refine (garmentref27_in.calls a0_3 1 (wrap64 (a1_1 - a0_1)) t129 _ A9.out).mono ?_); rintro e w' ⟨rfl, ⟨nd, rfl⟩⟩))
    go_ret
    exact ⟨by first | rfl | (simp [errW_none, errW_some] <;> rfl) | (simp [*, errW_none, errW_some] <;> rfl), be HB.out⟩
   ·replace c8 := Bool.eq_false_iff.mpr c8; subst c8
    have H1 : (some false) = some r := by rw [if_neg (show ¬ (false = true) by decide)] at H; exact H
    clear H; have H := H1; clear H1; obtain rfl := Option.some.inj H
    go_enter Tryz.func29, Tryz.ntmps29
    go_wp2_with (first | ((with_reducible refine gate_dst (N := 2) rfl ?_); refine box_event ?hg (N := 2) ?hd (cs := #[.int .i64 a0_0, .int .i64 a0_1, .int .i64 a0_2, .int .i64 a0_3]) (t := 46) ?hr ?_; (case hd => rfl); (case hg => rfl); (case hr => first | (go_simp; done) | (go_simp; rfl)); intro gb124 hg w15 hbox hb; have BK124 := Aside0.mk (hbox); have GW124 := Aside0.mk ((by rw [hg]; exact (below_size (be HB.out)) : w.heap.size ≤ gb124)); have GE124 := Aside0.mk ((by rw [hg]; exact (below_size (be HB.out)) : w.heap.size ≤ gb124)); replace HB := Aside0.mk (below_step (be HB.out) hb); clear hb hbox hg) | ((with_reducible refine gate_dst (N := 3) rfl ?_); refine box_event ?hg (N := 3) ?hd (cs := #[.string a1_0, .int .i64 a1_1, .int .i64 a1_2, .int .i64 a1_3, .int .i64 a1_4, .int .i64 a1_5, .slice A1_6 l1_6.length c1_6]) (t := 26) ?hr ?_; (case hd => rfl); (case hg => rfl); (case hr => first | (go_simp; done) | (go_simp; rfl)); intro gb125 hg w16 hbox hb; have BK125 := Aside0.mk (hbox); have GW125 := Aside0.mk ((by rw [hg]; exact (below_size (be HB.out)) : w.heap.size ≤ gb125)); have GE125 := Aside0.mk ((by rw [hg]; exact (below_size (be HB.out)) : w.heap.size ≤ gb125)); have NB124_125 := Aside0.mk ((by rw [hg]; exact Nat.ne_of_lt (blk_lt (g := gb124) (o := .cells #[.int .i64 a0_0, .int .i64 a0_1, .int .i64 a0_2, .int .i64 a0_3] 46 (0, 0)) (bu BK124.out)) : gb124 ≠ gb125)); have NB125_124 := Aside0.mk ((by rw [hg]; exact Nat.ne_of_gt (blk_lt (g := gb124) (o := .cells #[.int .i64 a0_0, .int .i64 a0_1, .int .i64 a0_2, .int .i64 a0_3] 46 (0, 0)) (bu BK124.out)) : gb125 ≠ gb124)); replace BK124 := Aside0.mk (blk_below (bu BK124.out) hb); replace HB := Aside0.mk (below_step (be HB.out) hb); clear hb hbox hg; have hnb17 := NB124_125.out; have hnc17 := NB125_124.out; have hcz18_0 := bc BK124.out 0 (.int .i64 a0_0) rfl; have hcz18_1 := bc BK124.out 1 (.int .i64 a0_1) rfl; have hcz18_2 := bc BK124.out 2 (.int .i64 a0_2) rfl; have hcz18_3 := bc BK124.out 3 (.int .i64 a0_3) rfl; have hfz18_0 := blk_frozen BK124.out 0; have hfz18_1 := blk_frozen BK124.out 1; have hfz18_2 := blk_frozen BK124.out 2; have hfz18_3 := blk_frozen BK124.out 3; have hcz19_0 := bc BK125.out 0 (.string a1_0) rfl; have hcz19_1 := bc BK125.out 1 (.int .i64 a1_1) rfl; have hcz19_2 := bc BK125.out 2 (.int .i64 a1_2) rfl; have hcz19_3 := bc BK125.out 3 (.int .i64 a1_3) rfl; have hcz19_4 := bc BK125.out 4 (.int .i64 a1_4) rfl; have hcz19_5 := bc BK125.out 5 (.int .i64 a1_5) rfl; have hcz19_6 := bc BK125.out 6 (.slice A1_6 l1_6.length c1_6) rfl; have hfz19_0 := blk_frozen BK125.out 0; have hfz19_1 := blk_frozen BK125.out 1; have hfz19_2 := blk_frozen BK125.out 2; have hfz19_3 := blk_frozen BK125.out 3; have hfz19_4 := blk_frozen BK125.out 4; have hfz19_5 := blk_frozen BK125.out 5; have hfz19_6 := blk_frozen BK125.out 6) | ((with_reducible refine gate_callee (f := 28) rfl ?_); refine goesA (some 9) rfl rfl Tryz.func28 (by kernel_rfl) rfl #[.int .i64 a0_0, .int .i64 0, .int .i64 a1_2] rfl ?_; (with_reducible refine (garmentref27_in.calls a0_0 0 a1_2 true _ A3.out).mono ?_); rintro e w' ⟨rfl, ⟨nd, rfl⟩⟩; refine ⟨_, rfl, ?_⟩) | (go_at_call 28; (with_reducible refine (garmentref27_in.calls a0_1 0 a1_1 true _ A5.out).mono ?_); rintro e w' ⟨rfl, ⟨nd, rfl⟩⟩) | (go_at_call 28; (with_reducible refine (garmentref27_in.calls a0_2 1 (wrap64 (a1_2 - a0_0)) false _ A7.out).mono ?_); rintro e w' ⟨rfl, ⟨nd, rfl⟩⟩))
    go_ret
    exact ⟨by first | rfl | (simp [errW_none, errW_some] <;> rfl) | (simp [*, errW_none, errW_some] <;> rfl), be HB.out⟩
  ·replace c6 := Bool.eq_false_iff.mpr c6; subst c6
   have H1 : (some false) = some r := by rw [if_neg (show ¬ (false = true) by decide)] at H; exact H
   clear H; have H := H1; clear H1; obtain rfl := Option.some.inj H
   go_enter Tryz.func29, Tryz.ntmps29
   go_wp2_with (first | ((with_reducible refine gate_dst (N := 2) rfl ?_); refine box_event ?hg (N := 2) ?hd (cs := #[.int .i64 a0_0, .int .i64 a0_1, .int .i64 a0_2, .int .i64 a0_3]) (t := 46) ?hr ?_; (case hd => rfl); (case hg => rfl); (case hr => first | (go_simp; done) | (go_simp; rfl)); intro gb124 hg w20 hbox hb; have BK124 := Aside0.mk (hbox); have GW124 := Aside0.mk ((by rw [hg]; exact (below_size (be HB.out)) : w.heap.size ≤ gb124)); have GE124 := Aside0.mk ((by rw [hg]; exact (below_size (be HB.out)) : w.heap.size ≤ gb124)); replace HB := Aside0.mk (below_step (be HB.out) hb); clear hb hbox hg) | ((with_reducible refine gate_dst (N := 3) rfl ?_); refine box_event ?hg (N := 3) ?hd (cs := #[.string a1_0, .int .i64 a1_1, .int .i64 a1_2, .int .i64 a1_3, .int .i64 a1_4, .int .i64 a1_5, .slice A1_6 l1_6.length c1_6]) (t := 26) ?hr ?_; (case hd => rfl); (case hg => rfl); (case hr => first | (go_simp; done) | (go_simp; rfl)); intro gb125 hg w21 hbox hb; have BK125 := Aside0.mk (hbox); have GW125 := Aside0.mk ((by rw [hg]; exact (below_size (be HB.out)) : w.heap.size ≤ gb125)); have GE125 := Aside0.mk ((by rw [hg]; exact (below_size (be HB.out)) : w.heap.size ≤ gb125)); have NB124_125 := Aside0.mk ((by rw [hg]; exact Nat.ne_of_lt (blk_lt (g := gb124) (o := .cells #[.int .i64 a0_0, .int .i64 a0_1, .int .i64 a0_2, .int .i64 a0_3] 46 (0, 0)) (bu BK124.out)) : gb124 ≠ gb125)); have NB125_124 := Aside0.mk ((by rw [hg]; exact Nat.ne_of_gt (blk_lt (g := gb124) (o := .cells #[.int .i64 a0_0, .int .i64 a0_1, .int .i64 a0_2, .int .i64 a0_3] 46 (0, 0)) (bu BK124.out)) : gb125 ≠ gb124)); replace BK124 := Aside0.mk (blk_below (bu BK124.out) hb); replace HB := Aside0.mk (below_step (be HB.out) hb); clear hb hbox hg; have hnb22 := NB124_125.out; have hnc22 := NB125_124.out; have hcz23_0 := bc BK124.out 0 (.int .i64 a0_0) rfl; have hcz23_1 := bc BK124.out 1 (.int .i64 a0_1) rfl; have hcz23_2 := bc BK124.out 2 (.int .i64 a0_2) rfl; have hcz23_3 := bc BK124.out 3 (.int .i64 a0_3) rfl; have hfz23_0 := blk_frozen BK124.out 0; have hfz23_1 := blk_frozen BK124.out 1; have hfz23_2 := blk_frozen BK124.out 2; have hfz23_3 := blk_frozen BK124.out 3; have hcz24_0 := bc BK125.out 0 (.string a1_0) rfl; have hcz24_1 := bc BK125.out 1 (.int .i64 a1_1) rfl; have hcz24_2 := bc BK125.out 2 (.int .i64 a1_2) rfl; have hcz24_3 := bc BK125.out 3 (.int .i64 a1_3) rfl; have hcz24_4 := bc BK125.out 4 (.int .i64 a1_4) rfl; have hcz24_5 := bc BK125.out 5 (.int .i64 a1_5) rfl; have hcz24_6 := bc BK125.out 6 (.slice A1_6 l1_6.length c1_6) rfl; have hfz24_0 := blk_frozen BK125.out 0; have hfz24_1 := blk_frozen BK125.out 1; have hfz24_2 := blk_frozen BK125.out 2; have hfz24_3 := blk_frozen BK125.out 3; have hfz24_4 := blk_frozen BK125.out 4; have hfz24_5 := blk_frozen BK125.out 5; have hfz24_6 := blk_frozen BK125.out 6) | ((with_reducible refine gate_callee (f := 28) rfl ?_); refine goesA (some 9) rfl rfl Tryz.func28 (by kernel_rfl) rfl #[.int .i64 a0_0, .int .i64 0, .int .i64 a1_2] rfl ?_; (with_reducible refine (garmentref27_in.calls a0_0 0 a1_2 true _ A3.out).mono ?_); rintro e w' ⟨rfl, ⟨nd, rfl⟩⟩; refine ⟨_, rfl, ?_⟩) | (go_at_call 28; (with_reducible refine (garmentref27_in.calls a0_1 0 a1_1 false _ A5.out).mono ?_); rintro e w' ⟨rfl, ⟨nd, rfl⟩⟩))
   go_ret
   exact ⟨by first | rfl | (simp [errW_none, errW_some] <;> rfl) | (simp [*, errW_none, errW_some] <;> rfl), be HB.out⟩
 ·replace c4 := Bool.eq_false_iff.mpr c4; subst c4
  have H1 : (some false) = some r := by rw [if_neg (show ¬ (false = true) by decide)] at H; exact H
  clear H; have H := H1; clear H1; obtain rfl := Option.some.inj H
  go_enter Tryz.func29, Tryz.ntmps29
  go_wp2_with (first | ((with_reducible refine gate_dst (N := 2) rfl ?_); refine box_event ?hg (N := 2) ?hd (cs := #[.int .i64 a0_0, .int .i64 a0_1, .int .i64 a0_2, .int .i64 a0_3]) (t := 46) ?hr ?_; (case hd => rfl); (case hg => rfl); (case hr => first | (go_simp; done) | (go_simp; rfl)); intro gb124 hg w25 hbox hb; have BK124 := Aside0.mk (hbox); have GW124 := Aside0.mk ((by rw [hg]; exact (below_size (be HB.out)) : w.heap.size ≤ gb124)); have GE124 := Aside0.mk ((by rw [hg]; exact (below_size (be HB.out)) : w.heap.size ≤ gb124)); replace HB := Aside0.mk (below_step (be HB.out) hb); clear hb hbox hg) | ((with_reducible refine gate_dst (N := 3) rfl ?_); refine box_event ?hg (N := 3) ?hd (cs := #[.string a1_0, .int .i64 a1_1, .int .i64 a1_2, .int .i64 a1_3, .int .i64 a1_4, .int .i64 a1_5, .slice A1_6 l1_6.length c1_6]) (t := 26) ?hr ?_; (case hd => rfl); (case hg => rfl); (case hr => first | (go_simp; done) | (go_simp; rfl)); intro gb125 hg w26 hbox hb; have BK125 := Aside0.mk (hbox); have GW125 := Aside0.mk ((by rw [hg]; exact (below_size (be HB.out)) : w.heap.size ≤ gb125)); have GE125 := Aside0.mk ((by rw [hg]; exact (below_size (be HB.out)) : w.heap.size ≤ gb125)); have NB124_125 := Aside0.mk ((by rw [hg]; exact Nat.ne_of_lt (blk_lt (g := gb124) (o := .cells #[.int .i64 a0_0, .int .i64 a0_1, .int .i64 a0_2, .int .i64 a0_3] 46 (0, 0)) (bu BK124.out)) : gb124 ≠ gb125)); have NB125_124 := Aside0.mk ((by rw [hg]; exact Nat.ne_of_gt (blk_lt (g := gb124) (o := .cells #[.int .i64 a0_0, .int .i64 a0_1, .int .i64 a0_2, .int .i64 a0_3] 46 (0, 0)) (bu BK124.out)) : gb125 ≠ gb124)); replace BK124 := Aside0.mk (blk_below (bu BK124.out) hb); replace HB := Aside0.mk (below_step (be HB.out) hb); clear hb hbox hg; have hnb27 := NB124_125.out; have hnc27 := NB125_124.out; have hcz28_0 := bc BK124.out 0 (.int .i64 a0_0) rfl; have hcz28_1 := bc BK124.out 1 (.int .i64 a0_1) rfl; have hcz28_2 := bc BK124.out 2 (.int .i64 a0_2) rfl; have hcz28_3 := bc BK124.out 3 (.int .i64 a0_3) rfl; have hfz28_0 := blk_frozen BK124.out 0; have hfz28_1 := blk_frozen BK124.out 1; have hfz28_2 := blk_frozen BK124.out 2; have hfz28_3 := blk_frozen BK124.out 3; have hcz29_0 := bc BK125.out 0 (.string a1_0) rfl; have hcz29_1 := bc BK125.out 1 (.int .i64 a1_1) rfl; have hcz29_2 := bc BK125.out 2 (.int .i64 a1_2) rfl; have hcz29_3 := bc BK125.out 3 (.int .i64 a1_3) rfl; have hcz29_4 := bc BK125.out 4 (.int .i64 a1_4) rfl; have hcz29_5 := bc BK125.out 5 (.int .i64 a1_5) rfl; have hcz29_6 := bc BK125.out 6 (.slice A1_6 l1_6.length c1_6) rfl; have hfz29_0 := blk_frozen BK125.out 0; have hfz29_1 := blk_frozen BK125.out 1; have hfz29_2 := blk_frozen BK125.out 2; have hfz29_3 := blk_frozen BK125.out 3; have hfz29_4 := blk_frozen BK125.out 4; have hfz29_5 := blk_frozen BK125.out 5; have hfz29_6 := blk_frozen BK125.out 6) | ((with_reducible refine gate_callee (f := 28) rfl ?_); refine goesA (some 9) rfl rfl Tryz.func28 (by kernel_rfl) rfl #[.int .i64 a0_0, .int .i64 0, .int .i64 a1_2] rfl ?_; (with_reducible refine (garmentref27_in.calls a0_0 0 a1_2 false _ A3.out).mono ?_); rintro e w' ⟨rfl, ⟨nd, rfl⟩⟩; refine ⟨_, rfl, ?_⟩))
  go_ret
  exact ⟨by first | rfl | (simp [errW_none, errW_some] <;> rfl) | (simp [*, errW_none, errW_some] <;> rfl), be HB.out⟩

end Go.Proofs.YtdblkmnbkpphjaaGreatDoor.P
namespace Go.Proofs.YtdblkmnbkpphjaaGreatDoor.P
open Go.RowKit Go.Proofs.YtdblkmnbkpphjaaGreatDoorW.PrintWords Go.Proofs.YtdblkmnbkpphjaaGreatDoorW.PrintLast Go.Proofs.YtdblkmnbkpphjaaGreatDoorW.PrintMore Go.Proofs.YtdblkmnbkpphjaaGreatDoorW.PrintAuto
attribute [local go_sem] max2_int min2_int max_two min_two max_three min_three max_four min_four   -- for this text's walks alone
set_option linter.unusedVariables false
set_option linter.unusedSimpArgs false

mutual
def garmentref27_Check.j0 : Nat → Bool → ByteArray → Int → Int → Int → Int → Int → List (S46) → Option (Int)
 | 0, _, _, _, _, _, _, _, _ => none
 | k + 1, x38, x131000, x131001, x131002, x131003, x131004, x131005, x131006 => if x38 = true then (some 3) else (if (x131006.length : Int) > 20 then (some 5) else (garmentref27_Check.l0 k 0 x131000 x131001 x131002 x131003 x131004 x131005 x131006))
def garmentref27_Check.l0 : Nat → Int → ByteArray → Int → Int → Int → Int → Int → List (S46) → Option (Int)
 | 0, _, _, _, _, _, _, _, _ => none
 | k + 1, x3, x131000, x131001, x131002, x131003, x131004, x131005, x131006 => if x3 < (x131006.length : Int) then (if 0 ≤ x3 then ((garmentref27_fits.f ((rd_T46 x131006 x3).f0) ((rd_T46 x131006 x3).f1) ((rd_T46 x131006 x3).f2) ((rd_T46 x131006 x3).f3) x131000 x131001 x131002 x131003 x131004 x131005 x131006).bind fun t138 => (if t138 = true then (garmentref27_Check.l0 k (wrap64 (x3 + 1)) x131000 x131001 x131002 x131003 x131004 x131005 x131006) else (some 3))) else (none)) else (some 0)
end
def garmentref27_Check.f (k : Nat) (a0_0 : ByteArray) (a0_1 : Int) (a0_2 : Int) (a0_3 : Int) (a0_4 : Int) (a0_5 : Int) (l0_6 : List (S46)) : Option (Int) := (garmentref27_id.f k a0_0).bind fun t131 => (if t131 = true then ((garmentref27_in.f a0_2 1 1048576).bind fun t132 => (if t132 = true then ((garmentref27_in.f a0_1 1 1048576).bind fun t133 => (if t133 = true then ((garmentref27_in.f a0_3 (-1000) 1000).bind fun t134 => (if t134 = true then ((garmentref27_in.f a0_4 (-1000) 1000).bind fun t135 => (if t135 = true then ((garmentref27_in.f a0_5 (-1000) 1000).bind fun t136 => (garmentref27_Check.j0 k (!t136) a0_0 a0_1 a0_2 a0_3 a0_4 a0_5 l0_6)) else (garmentref27_Check.j0 k true a0_0 a0_1 a0_2 a0_3 a0_4 a0_5 l0_6))) else (garmentref27_Check.j0 k true a0_0 a0_1 a0_2 a0_3 a0_4 a0_5 l0_6))) else (garmentref27_Check.j0 k true a0_0 a0_1 a0_2 a0_3 a0_4 a0_5 l0_6))) else (garmentref27_Check.j0 k true a0_0 a0_1 a0_2 a0_3 a0_4 a0_5 l0_6))) else (some 1))
theorem garmentref27_Check.mono_l : ∀ k, (∀ y0 y1 y2 y3 y4 y5 y6 y7, LeO (garmentref27_Check.j0 k y0 y1 y2 y3 y4 y5 y6 y7) (garmentref27_Check.j0 (k + 1) y0 y1 y2 y3 y4 y5 y6 y7)) ∧ (∀ y0 y1 y2 y3 y4 y5 y6 y7, LeO (garmentref27_Check.l0 k y0 y1 y2 y3 y4 y5 y6 y7) (garmentref27_Check.l0 (k + 1) y0 y1 y2 y3 y4 y5 y6 y7))
 | 0 => ⟨fun _ _ _ _ _ _ _ _ r h => by simp [garmentref27_Check.j0] at h, fun _ _ _ _ _ _ _ _ r h => by simp [garmentref27_Check.l0] at h⟩
 | k + 1 => by
  obtain ⟨ih0, ih1⟩ := garmentref27_Check.mono_l k
  refine ⟨?_, ?_⟩
  ·intro y0 y1 y2 y3 y4 y5 y6 y7
   unfold garmentref27_Check.j0
   repeat' first
   | (with_reducible exact ih0 _ _ _ _ _ _ _ _)
   | (with_reducible exact ih1 _ _ _ _ _ _ _ _)
   | (with_reducible exact garmentref27_id.mono _ _)
   | (with_reducible exact LeO.refl _)
   | (with_reducible exact LeO.none _)
   | (with_reducible refine LeO.ite ?_ ?_)
   | (with_reducible refine LeO.bind ?_ (fun _ => ?_))
   | exact ih0 _ _ _ _ _ _ _ _
   | exact ih1 _ _ _ _ _ _ _ _
   | exact garmentref27_id.mono _ _
   | exact LeO.none _
   | refine LeO.ite ?_ ?_
   | refine LeO.bind ?_ (fun _ => ?_)
  ·intro y0 y1 y2 y3 y4 y5 y6 y7
   unfold garmentref27_Check.l0
   repeat' first
   | (with_reducible exact ih0 _ _ _ _ _ _ _ _)
   | (with_reducible exact ih1 _ _ _ _ _ _ _ _)
   | (with_reducible exact garmentref27_id.mono _ _)
   | (with_reducible exact LeO.refl _)
   | (with_reducible exact LeO.none _)
   | (with_reducible refine LeO.ite ?_ ?_)
   | (with_reducible refine LeO.bind ?_ (fun _ => ?_))
   | exact ih0 _ _ _ _ _ _ _ _
   | exact ih1 _ _ _ _ _ _ _ _
   | exact garmentref27_id.mono _ _
   | exact LeO.none _
   | refine LeO.ite ?_ ?_
   | refine LeO.bind ?_ (fun _ => ?_)
theorem garmentref27_Check.mono : ∀ a0 a1 a2 a3 a4 a5 a6 k, LeO (garmentref27_Check.f k a0 a1 a2 a3 a4 a5 a6) (garmentref27_Check.f (k + 1) a0 a1 a2 a3 a4 a5 a6) := by
 intro a0 a1 a2 a3 a4 a5 a6 k; obtain ⟨ih0, ih1⟩ := garmentref27_Check.mono_l k
 unfold garmentref27_Check.f
 repeat' first
  | (with_reducible exact ih0 _ _ _ _ _ _ _ _)
  | (with_reducible exact ih1 _ _ _ _ _ _ _ _)
  | (with_reducible exact garmentref27_id.mono _ _)
  | (with_reducible exact LeO.refl _)
  | (with_reducible exact LeO.none _)
  | (with_reducible refine LeO.ite ?_ ?_)
  | (with_reducible refine LeO.bind ?_ (fun _ => ?_))
  | exact ih0 _ _ _ _ _ _ _ _
  | exact ih1 _ _ _ _ _ _ _ _
  | exact garmentref27_id.mono _ _
  | exact LeO.none _
  | refine LeO.ite ?_ ?_
  | refine LeO.bind ?_ (fun _ => ?_)
def garmentref27_Check.T10 : Bool × List (List Nat × List Nat) := (true, [([], []), ([0], [0]), ([], []), ([1, 2], [1, 2]), ([3], [3]), ([], []), ([4, 5], [4, 5]), ([6], [6])])
def garmentref27_Check.B10 : List Nat := [0, 1, 0, 7, 15, 0, 63, 127]
theorem garmentref27_Check.tab10 : rtab .any (opsOf Tryz.f12 10) = garmentref27_Check.T10 := by kernel_rfl
theorem garmentref27_Check.bits10 : waitsOk garmentref27_Check.T10.2 garmentref27_Check.B10 = true := by kernel_rfl
set_option maxHeartbeats 8000000 in
set_option maxRecDepth 100000 in
theorem garmentref27_Check.calls (k : Nat) (a0_0 : ByteArray) (a0_1 : Int) (a0_2 : Int) (a0_3 : Int) (a0_4 : Int) (a0_5 : Int) (A0_6 : Option Addr) (c0_6 : Nat) (l0_6 : List (S46)) (r : Int) (w : World) (hr0_6 : Kd.C k46 w A0_6 l0_6.length l0_6) (hc0_6 : l0_6.length ≤ c0_6) (h : garmentref27_Check.f k a0_0 a0_1 a0_2 a0_3 a0_4 a0_5 l0_6 = some r) :
  Calls Tryz.prog 12 #[.agg #[.string a0_0, .int .i64 a0_1, .int .i64 a0_2, .int .i64 a0_3, .int .i64 a0_4, .int .i64 a0_5, .slice A0_6 l0_6.length c0_6]] w fun e w' => e = .returned (.int .i64 r) ∧ Below w.heap.size w w' := by
 have hu26 := Tryz.underlying26; have hu46 := Tryz.underlying46; have HR0_6 := Aside0.mk hr0_6; have HC0_6 := Aside0.mk hc0_6; clear hr0_6 hc0_6; have HB := Aside0.mk (Below.refl w.heap.size w); have H : ((garmentref27_id.f k a0_0).bind fun t131 => (if t131 = true then ((garmentref27_in.f a0_2 1 1048576).bind fun t132 => (if t132 = true then ((garmentref27_in.f a0_1 1 1048576).bind fun t133 => (if t133 = true then ((garmentref27_in.f a0_3 (-1000) 1000).bind fun t134 => (if t134 = true then ((garmentref27_in.f a0_4 (-1000) 1000).bind fun t135 => (if t135 = true then ((garmentref27_in.f a0_5 (-1000) 1000).bind fun t136 => (garmentref27_Check.j0 k (!t136) a0_0 a0_1 a0_2 a0_3 a0_4 a0_5 l0_6)) else (garmentref27_Check.j0 k true a0_0 a0_1 a0_2 a0_3 a0_4 a0_5 l0_6))) else (garmentref27_Check.j0 k true a0_0 a0_1 a0_2 a0_3 a0_4 a0_5 l0_6))) else (garmentref27_Check.j0 k true a0_0 a0_1 a0_2 a0_3 a0_4 a0_5 l0_6))) else (garmentref27_Check.j0 k true a0_0 a0_1 a0_2 a0_3 a0_4 a0_5 l0_6))) else (some 1))) = some r := h; clear h; replace H := Option.bind_eq_some_iff.mp H; obtain ⟨t131, A20, H⟩ := H; replace H : (if t131 = true then ((garmentref27_in.f a0_2 1 1048576).bind fun t132 => (if t132 = true then ((garmentref27_in.f a0_1 1 1048576).bind fun t133 => (if t133 = true then ((garmentref27_in.f a0_3 (-1000) 1000).bind fun t134 => (if t134 = true then ((garmentref27_in.f a0_4 (-1000) 1000).bind fun t135 => (if t135 = true then ((garmentref27_in.f a0_5 (-1000) 1000).bind fun t136 => (garmentref27_Check.j0 k (!t136) a0_0 a0_1 a0_2 a0_3 a0_4 a0_5 l0_6)) else (garmentref27_Check.j0 k true a0_0 a0_1 a0_2 a0_3 a0_4 a0_5 l0_6))) else (garmentref27_Check.j0 k true a0_0 a0_1 a0_2 a0_3 a0_4 a0_5 l0_6))) else (garmentref27_Check.j0 k true a0_0 a0_1 a0_2 a0_3 a0_4 a0_5 l0_6))) else (garmentref27_Check.j0 k true a0_0 a0_1 a0_2 a0_3 a0_4 a0_5 l0_6))) else (some 1)) = some r := H; have A2 := Aside0.mk A20; clear A20
 by_cases c3 : t131 = true
 ·subst c3
  have H1 : ((garmentref27_in.f a0_2 1 1048576).bind fun t132 => (if t132 = true then ((garmentref27_in.f a0_1 1 1048576).bind fun t133 => (if t133 = true then ((garmentref27_in.f a0_3 (-1000) 1000).bind fun t134 => (if t134 = true then ((garmentref27_in.f a0_4 (-1000) 1000).bind fun t135 => (if t135 = true then ((garmentref27_in.f a0_5 (-1000) 1000).bind fun t136 => (garmentref27_Check.j0 k (!t136) a0_0 a0_1 a0_2 a0_3 a0_4 a0_5 l0_6)) else (garmentref27_Check.j0 k true a0_0 a0_1 a0_2 a0_3 a0_4 a0_5 l0_6))) else (garmentref27_Check.j0 k true a0_0 a0_1 a0_2 a0_3 a0_4 a0_5 l0_6))) else (garmentref27_Check.j0 k true a0_0 a0_1 a0_2 a0_3 a0_4 a0_5 l0_6))) else (garmentref27_Check.j0 k true a0_0 a0_1 a0_2 a0_3 a0_4 a0_5 l0_6))) = some r := by rw [if_pos rfl] at H; exact H
  clear H; have H := H1; clear H1; have HC4 := Aside0.mk H; clear H
  go_enter Tryz.func12, Tryz.ntmps12
  go_upto_region 3 with (first | ((with_reducible refine gate_dst (N := 1) rfl ?_); refine box_event ?hg (N := 1) ?hd (cs := #[.string a0_0, .int .i64 a0_1, .int .i64 a0_2, .int .i64 a0_3, .int .i64 a0_4, .int .i64 a0_5, .slice A0_6 l0_6.length c0_6]) (t := 26) ?hr ?_; (case hd => rfl); (case hg => rfl); (case hr => first | (go_simp; done) | (go_simp; rfl)); intro gb130 hg w5 hbox hb; have BK130 := Aside0.mk (hbox); have GW130 := Aside0.mk ((by rw [hg]; exact (below_size (be HB.out)) : w.heap.size ≤ gb130)); have GE130 := Aside0.mk ((by rw [hg]; exact (below_size (be HB.out)) : w.heap.size ≤ gb130)); replace HB := Aside0.mk (below_step (be HB.out) hb); clear hb hbox hg; have hcz6_0 := bc BK130.out 0 (.string a0_0) rfl; have hcz6_1 := bc BK130.out 1 (.int .i64 a0_1) rfl; have hcz6_2 := bc BK130.out 2 (.int .i64 a0_2) rfl; have hcz6_3 := bc BK130.out 3 (.int .i64 a0_3) rfl; have hcz6_4 := bc BK130.out 4 (.int .i64 a0_4) rfl; have hcz6_5 := bc BK130.out 5 (.int .i64 a0_5) rfl; have hcz6_6 := bc BK130.out 6 (.slice A0_6 l0_6.length c0_6) rfl; have hfz6_0 := blk_frozen BK130.out 0; have hfz6_1 := blk_frozen BK130.out 1; have hfz6_2 := blk_frozen BK130.out 2; have hfz6_3 := blk_frozen BK130.out 3; have hfz6_4 := blk_frozen BK130.out 4; have hfz6_5 := blk_frozen BK130.out 5; have hfz6_6 := blk_frozen BK130.out 6) | ((with_reducible refine gate_callee (f := 27) rfl ?_); refine goesA (some 6) rfl rfl Tryz.func27 (by kernel_rfl) rfl #[.string a0_0] rfl ?_; (with_reducible refine (garmentref27_id.calls k a0_0 true _ A2.out).mono ?_); rintro e w' ⟨rfl, ⟨nd, rfl⟩⟩; refine ⟨_, rfl, ?_⟩))
  (try simp only [Act.put, List.setIfInBounds_toArray, List.set_cons_zero, List.set_cons_succ])
  go_cut [38] (fun v38 wc => ∃ (kq : Nat) (x38_3 : Bool), v38 = .bool x38_3 ∧ Aside0 (garmentref27_Check.j0 kq x38_3 a0_0 a0_1 a0_2 a0_3 a0_4 a0_5 l0_6 = some r) ∧ Aside0 (kq ≤ k) ∧ Aside0 (wc.heap[gb130]? = some (.cells #[.string a0_0, .int .i64 a0_1, .int .i64 a0_2, .int .i64 a0_3, .int .i64 a0_4, .int .i64 a0_5, (.slice A0_6 l0_6.length c0_6)] 26 (0, 0))) ∧ Aside0 (Below w.heap.size w wc))
  case first =>
   have H := HC4.out; clear HC4; replace H := Option.bind_eq_some_iff.mp H; obtain ⟨t132, A70, H⟩ := H; replace H : (if t132 = true then ((garmentref27_in.f a0_1 1 1048576).bind fun t133 => (if t133 = true then ((garmentref27_in.f a0_3 (-1000) 1000).bind fun t134 => (if t134 = true then ((garmentref27_in.f a0_4 (-1000) 1000).bind fun t135 => (if t135 = true then ((garmentref27_in.f a0_5 (-1000) 1000).bind fun t136 => (garmentref27_Check.j0 k (!t136) a0_0 a0_1 a0_2 a0_3 a0_4 a0_5 l0_6)) else (garmentref27_Check.j0 k true a0_0 a0_1 a0_2 a0_3 a0_4 a0_5 l0_6))) else (garmentref27_Check.j0 k true a0_0 a0_1 a0_2 a0_3 a0_4 a0_5 l0_6))) else (garmentref27_Check.j0 k true a0_0 a0_1 a0_2 a0_3 a0_4 a0_5 l0_6))) else (garmentref27_Check.j0 k true a0_0 a0_1 a0_2 a0_3 a0_4 a0_5 l0_6)) = some r := H; have A7 := Aside0.mk A70; clear A70
   by_cases c8 : t132 = true
   ·subst c8
    have H1 : ((garmentref27_in.f a0_1 1 1048576).bind fun t133 => (if t133 = true then ((garmentref27_in.f a0_3 (-1000) 1000).bind fun t134 => (if t134 = true then ((garmentref27_in.f a0_4 (-1000) 1000).bind fun t135 => (if t135 = true then ((garmentref27_in.f a0_5 (-1000) 1000).bind fun t136 => (garmentref27_Check.j0 k (!t136) a0_0 a0_1 a0_2 a0_3 a0_4 a0_5 l0_6)) else (garmentref27_Check.j0 k true a0_0 a0_1 a0_2 a0_3 a0_4 a0_5 l0_6))) else (garmentref27_Check.j0 k true a0_0 a0_1 a0_2 a0_3 a0_4 a0_5 l0_6))) else (garmentref27_Check.j0 k true a0_0 a0_1 a0_2 a0_3 a0_4 a0_5 l0_6))) = some r := by rw [if_pos rfl] at H; exact H
    clear H; have H := H1; clear H1; replace H := Option.bind_eq_some_iff.mp H; obtain ⟨t133, A90, H⟩ := H; replace H : (if t133 = true then ((garmentref27_in.f a0_3 (-1000) 1000).bind fun t134 => (if t134 = true then ((garmentref27_in.f a0_4 (-1000) 1000).bind fun t135 => (if t135 = true then ((garmentref27_in.f a0_5 (-1000) 1000).bind fun t136 => (garmentref27_Check.j0 k (!t136) a0_0 a0_1 a0_2 a0_3 a0_4 a0_5 l0_6)) else (garmentref27_Check.j0 k true a0_0 a0_1 a0_2 a0_3 a0_4 a0_5 l0_6))) else (garmentref27_Check.j0 k true a0_0 a0_1 a0_2 a0_3 a0_4 a0_5 l0_6))) else (garmentref27_Check.j0 k true a0_0 a0_1 a0_2 a0_3 a0_4 a0_5 l0_6)) = some r := H; have A9 := Aside0.mk A90; clear A90
    by_cases c10 : t133 = true
    ·subst c10
     have H1 : ((garmentref27_in.f a0_3 (-1000) 1000).bind fun t134 => (if t134 = true then ((garmentref27_in.f a0_4 (-1000) 1000).bind fun t135 => (if t135 = true then ((garmentref27_in.f a0_5 (-1000) 1000).bind fun t136 => (garmentref27_Check.j0 k (!t136) a0_0 a0_1 a0_2 a0_3 a0_4 a0_5 l0_6)) else (garmentref27_Check.j0 k true a0_0 a0_1 a0_2 a0_3 a0_4 a0_5 l0_6))) else (garmentref27_Check.j0 k true a0_0 a0_1 a0_2 a0_3 a0_4 a0_5 l0_6))) = some r := by rw [if_pos rfl] at H; exact H
     clear H; have H := H1; clear H1; replace H := Option.bind_eq_some_iff.mp H; obtain ⟨t134, A110, H⟩ := H; replace H : (if t134 = true then ((garmentref27_in.f a0_4 (-1000) 1000).bind fun t135 => (if t135 = true then ((garmentref27_in.f a0_5 (-1000) 1000).bind fun t136 => (garmentref27_Check.j0 k (!t136) a0_0 a0_1 a0_2 a0_3 a0_4 a0_5 l0_6)) else (garmentref27_Check.j0 k true a0_0 a0_1 a0_2 a0_3 a0_4 a0_5 l0_6))) else (garmentref27_Check.j0 k true a0_0 a0_1 a0_2 a0_3 a0_4 a0_5 l0_6)) = some r := H; have A11 := Aside0.mk A110; clear A110
     by_cases c12 : t134 = true
     ·subst c12
      have H1 : ((garmentref27_in.f a0_4 (-1000) 1000).bind fun t135 => (if t135 = true then ((garmentref27_in.f a0_5 (-1000) 1000).bind fun t136 => (garmentref27_Check.j0 k (!t136) a0_0 a0_1 a0_2 a0_3 a0_4 a0_5 l0_6)) else (garmentref27_Check.j0 k true a0_0 a0_1 a0_2 a0_3 a0_4 a0_5 l0_6))) = some r := by rw [if_pos rfl] at H; exact H
      clear H; have H := H1; clear H1; replace H := Option.bind_eq_some_iff.mp H; obtain ⟨t135, A130, H⟩ := H; replace H : (if t135 = true then ((garmentref27_in.f a0_5 (-1000) 1000).bind fun t136 => (garmentref27_Check.j0 k (!t136) a0_0 a0_1 a0_2 a0_3 a0_4 a0_5 l0_6)) else (garmentref27_Check.j0 k true a0_0 a0_1 a0_2 a0_3 a0_4 a0_5 l0_6)) = some r := H; have A13 := Aside0.mk A130; clear A130
      by_cases c14 : t135 = true
      ·subst c14
       have H1 : ((garmentref27_in.f a0_5 (-1000) 1000).bind fun t136 => (garmentref27_Check.j0 k (!t136) a0_0 a0_1 a0_2 a0_3 a0_4 a0_5 l0_6)) = some r := by rw [if_pos rfl] at H; exact H
       clear H; have H := H1; clear H1; replace H := Option.bind_eq_some_iff.mp H; obtain ⟨t136, A150, H⟩ := H; replace H : (garmentref27_Check.j0 k (!t136) a0_0 a0_1 a0_2 a0_3 a0_4 a0_5 l0_6) = some r := H; have A15 := Aside0.mk A150; clear A150; have H' := Aside0.mk H; clear H; have hcz16_0 := bc BK130.out 0 (.string a0_0) rfl; have hcz16_1 := bc BK130.out 1 (.int .i64 a0_1) rfl; have hcz16_2 := bc BK130.out 2 (.int .i64 a0_2) rfl; have hcz16_3 := bc BK130.out 3 (.int .i64 a0_3) rfl; have hcz16_4 := bc BK130.out 4 (.int .i64 a0_4) rfl; have hcz16_5 := bc BK130.out 5 (.int .i64 a0_5) rfl; have hcz16_6 := bc BK130.out 6 (.slice A0_6 l0_6.length c0_6) rfl; have hfz16_0 := blk_frozen BK130.out 0; have hfz16_1 := blk_frozen BK130.out 1; have hfz16_2 := blk_frozen BK130.out 2; have hfz16_3 := blk_frozen BK130.out 3; have hfz16_4 := blk_frozen BK130.out 4; have hfz16_5 := blk_frozen BK130.out 5; have hfz16_6 := blk_frozen BK130.out 6
       go_wp2_with (first | ((with_reducible refine gate_callee (f := 28) rfl ?_); refine goesA (some 10) rfl rfl Tryz.func28 (by kernel_rfl) rfl #[.int .i64 a0_2, .int .i64 1, .int .i64 1048576] rfl ?_; (with_reducible refine (garmentref27_in.calls a0_2 1 1048576 true _ A7.out).mono ?_); rintro e w' ⟨rfl, ⟨nd, rfl⟩⟩; refine ⟨_, rfl, ?_⟩) | (go_at_call 28; (with_reducible refine (garmentref27_in.calls a0_1 1 1048576 true _ A9.out).mono ?_); rintro e w' ⟨rfl, ⟨nd, rfl⟩⟩) | (go_at_call 28; (with_reducible refine (garmentref27_in.calls a0_3 (-1000) 1000 true _ A11.out).mono ?_); rintro e w' ⟨rfl, ⟨nd, rfl⟩⟩) | (go_at_call 28; (with_reducible refine (garmentref27_in.calls a0_4 (-1000) 1000 true _ A13.out).mono ?_); rintro e w' ⟨rfl, ⟨nd, rfl⟩⟩) | (go_at_call 28; (with_reducible refine (garmentref27_in.calls a0_5 (-1000) 1000 t136 _ A15.out).mono ?_); rintro e w' ⟨rfl, ⟨nd, rfl⟩⟩))
       go_meet
       case rel => exact ⟨_, (!t136), (by first | rfl | (simp; done) | (simp [*]; done)), H', ⟨by first | omega | exact Nat.le_refl _⟩, ⟨bu (BK130.out)⟩, ⟨be HB.out⟩⟩
      ·replace c14 := Bool.eq_false_iff.mpr c14; subst c14
       have H1 : (garmentref27_Check.j0 k true a0_0 a0_1 a0_2 a0_3 a0_4 a0_5 l0_6) = some r := by rw [if_neg (show ¬ (false = true) by decide)] at H; exact H
       clear H; have H := H1; clear H1; have H' := Aside0.mk H; clear H; have hcz17_0 := bc BK130.out 0 (.string a0_0) rfl; have hcz17_1 := bc BK130.out 1 (.int .i64 a0_1) rfl; have hcz17_2 := bc BK130.out 2 (.int .i64 a0_2) rfl; have hcz17_3 := bc BK130.out 3 (.int .i64 a0_3) rfl; have hcz17_4 := bc BK130.out 4 (.int .i64 a0_4) rfl; have hcz17_5 := bc BK130.out 5 (.int .i64 a0_5) rfl; have hcz17_6 := bc BK130.out 6 (.slice A0_6 l0_6.length c0_6) rfl; have hfz17_0 := blk_frozen BK130.out 0; have hfz17_1 := blk_frozen BK130.out 1; have hfz17_2 := blk_frozen BK130.out 2; have hfz17_3 := blk_frozen BK130.out 3; have hfz17_4 := blk_frozen BK130.out 4; have hfz17_5 := blk_frozen BK130.out 5; have hfz17_6 := blk_frozen BK130.out 6
       go_wp2_with (first | ((with_reducible refine gate_callee (f := 28) rfl ?_); refine goesA (some 10) rfl rfl Tryz.func28 (by kernel_rfl) rfl #[.int .i64 a0_2, .int .i64 1, .int .i64 1048576] rfl ?_; (with_reducible refine (garmentref27_in.calls a0_2 1 1048576 true _ A7.out).mono ?_); rintro e w' ⟨rfl, ⟨nd, rfl⟩⟩; refine ⟨_, rfl, ?_⟩) | (go_at_call 28; (with_reducible refine (garmentref27_in.calls a0_1 1 1048576 true _ A9.out).mono ?_); rintro e w' ⟨rfl, ⟨nd, rfl⟩⟩) | (go_at_call 28; (with_reducible refine (garmentref27_in.calls a0_3 (-1000) 1000 true _ A11.out).mono ?_); rintro e w' ⟨rfl, ⟨nd, rfl⟩⟩) | (go_at_call 28; (with_reducible refine (garmentref27_in.calls a0_4 (-1000) 1000 false _ A13.out).mono ?_); rintro e w' ⟨rfl, ⟨nd, rfl⟩⟩))
       go_meet
       case rel => exact ⟨_, (true), (by first | rfl | (simp; done) | (simp [*]; done)), H', ⟨by first | omega | exact Nat.le_refl _⟩, ⟨bu (BK130.out)⟩, ⟨be HB.out⟩⟩
     ·replace c12 := Bool.eq_false_iff.mpr c12; subst c12
      have H1 : (garmentref27_Check.j0 k true a0_0 a0_1 a0_2 a0_3 a0_4 a0_5 l0_6) = some r := by rw [if_neg (show ¬ (false = true) by decide)] at H; exact H
      clear H; have H := H1; clear H1; have H' := Aside0.mk H; clear H; have hcz18_0 := bc BK130.out 0 (.string a0_0) rfl; have hcz18_1 := bc BK130.out 1 (.int .i64 a0_1) rfl; have hcz18_2 := bc BK130.out 2 (.int .i64 a0_2) rfl; have hcz18_3 := bc BK130.out 3 (.int .i64 a0_3) rfl; have hcz18_4 := bc BK130.out 4 (.int .i64 a0_4) rfl; have hcz18_5 := bc BK130.out 5 (.int .i64 a0_5) rfl; have hcz18_6 := bc BK130.out 6 (.slice A0_6 l0_6.length c0_6) rfl; have hfz18_0 := blk_frozen BK130.out 0; have hfz18_1 := blk_frozen BK130.out 1; have hfz18_2 := blk_frozen BK130.out 2; have hfz18_3 := blk_frozen BK130.out 3; have hfz18_4 := blk_frozen BK130.out 4; have hfz18_5 := blk_frozen BK130.out 5; have hfz18_6 := blk_frozen BK130.out 6
      go_wp2_with (first | ((with_reducible refine gate_callee (f := 28) rfl ?_); refine goesA (some 10) rfl rfl Tryz.func28 (by kernel_rfl) rfl #[.int .i64 a0_2, .int .i64 1, .int .i64 1048576] rfl ?_; (with_reducible refine (garmentref27_in.calls a0_2 1 1048576 true _ A7.out).mono ?_); rintro e w' ⟨rfl, ⟨nd, rfl⟩⟩; refine ⟨_, rfl, ?_⟩) | (go_at_call 28; (with_reducible refine (garmentref27_in.calls a0_1 1 1048576 true _ A9.out).mono ?_); rintro e w' ⟨rfl, ⟨nd, rfl⟩⟩) | (go_at_call 28; (with_reducible refine (garmentref27_in.calls a0_3 (-1000) 1000 false _ A11.out).mono ?_); rintro e w' ⟨rfl, ⟨nd, rfl⟩⟩))
      go_meet
      case rel => exact ⟨_, (true), (by first | rfl | (simp; done) | (simp [*]; done)), H', ⟨by first | omega | exact Nat.le_refl _⟩, ⟨bu (BK130.out)⟩, ⟨be HB.out⟩⟩
    ·replace c10 := Bool.eq_false_iff.mpr c10; subst c10
     have H1 : (garmentref27_Check.j0 k true a0_0 a0_1 a0_2 a0_3 a0_4 a0_5 l0_6) = some r := by rw [if_neg (show ¬ (false = true) by decide)] at H; exact H
     clear H; have H := H1; clear H1; have H' := Aside0.mk H; clear H; have hcz19_0 := bc BK130.out 0 (.string a0_0) rfl; have hcz19_1 := bc BK130.out 1 (.int .i64 a0_1) rfl; have hcz19_2 := bc BK130.out 2 (.int .i64 a0_2) rfl; have hcz19_3 := bc BK130.out 3 (.int .i64 a0_3) rfl; have hcz19_4 := bc BK130.out 4 (.int .i64 a0_4) rfl; have hcz19_5 := bc BK130.out 5 (.int .i64 a0_5) rfl; have hcz19_6 := bc BK130.out 6 (.slice A0_6 l0_6.length c0_6) rfl; have hfz19_0 := blk_frozen BK130.out 0; have hfz19_1 := blk_frozen BK130.out 1; have hfz19_2 := blk_frozen BK130.out 2; have hfz19_3 := blk_frozen BK130.out 3; have hfz19_4 := blk_frozen BK130.out 4; have hfz19_5 := blk_frozen BK130.out 5; have hfz19_6 := blk_frozen BK130.out 6
     go_wp2_with (first | ((with_reducible refine gate_callee (f := 28) rfl ?_); refine goesA (some 10) rfl rfl Tryz.func28 (by kernel_rfl) rfl #[.int .i64 a0_2, .int .i64 1, .int .i64 1048576] rfl ?_; (with_reducible refine (garmentref27_in.calls a0_2 1 1048576 true _ A7.out).mono ?_); rintro e w' ⟨rfl, ⟨nd, rfl⟩⟩; refine ⟨_, rfl, ?_⟩) | (go_at_call 28; (with_reducible refine (garmentref27_in.calls a0_1 1 1048576 false _ A9.out).mono ?_); rintro e w' ⟨rfl, ⟨nd, rfl⟩⟩))
     go_meet
     case rel => exact ⟨_, (true), (by first | rfl | (simp; done) | (simp [*]; done)), H', ⟨by first | omega | exact Nat.le_refl _⟩, ⟨bu (BK130.out)⟩, ⟨be HB.out⟩⟩
   ·replace c8 := Bool.eq_false_iff.mpr c8; subst c8
    have H1 : (garmentref27_Check.j0 k true a0_0 a0_1 a0_2 a0_3 a0_4 a0_5 l0_6) = some r := by rw [if_neg (show ¬ (false = true) by decide)] at H; exact H
    clear H; have H := H1; clear H1; have H' := Aside0.mk H; clear H; have hcz20_0 := bc BK130.out 0 (.string a0_0) rfl; have hcz20_1 := bc BK130.out 1 (.int .i64 a0_1) rfl; have hcz20_2 := bc BK130.out 2 (.int .i64 a0_2) rfl; have hcz20_3 := bc BK130.out 3 (.int .i64 a0_3) rfl; have hcz20_4 := bc BK130.out 4 (.int .i64 a0_4) rfl; have hcz20_5 := bc BK130.out 5 (.int .i64 a0_5) rfl; have hcz20_6 := bc BK130.out 6 (.slice A0_6 l0_6.length c0_6) rfl; have hfz20_0 := blk_frozen BK130.out 0; have hfz20_1 := blk_frozen BK130.out 1; have hfz20_2 := blk_frozen BK130.out 2; have hfz20_3 := blk_frozen BK130.out 3; have hfz20_4 := blk_frozen BK130.out 4; have hfz20_5 := blk_frozen BK130.out 5; have hfz20_6 := blk_frozen BK130.out 6
    go_wp2_with (first | ((with_reducible refine gate_callee (f := 28) rfl ?_); refine goesA (some 10) rfl rfl Tryz.func28 (by kernel_rfl) rfl #[.int .i64 a0_2, .int .i64 1, .int .i64 1048576] rfl ?_; (with_reducible refine (garmentref27_in.calls a0_2 1 1048576 false _ A7.out).mono ?_); rintro e w' ⟨rfl, ⟨nd, rfl⟩⟩; refine ⟨_, rfl, ?_⟩))
    go_meet
    case rel => exact ⟨_, (true), (by first | rfl | (simp; done) | (simp [*]; done)), H', ⟨by first | omega | exact Nat.le_refl _⟩, ⟨bu (BK130.out)⟩, ⟨be HB.out⟩⟩
  case rest =>
   clear HC4
   try clear c1
   try clear c2
   try clear p2
   try clear c3
   try clear c8
   try clear c10
   try clear c12
   try clear c14
   try clear hcz16_0 hcz16_1 hcz16_2 hcz16_3 hcz16_4 hcz16_5 hcz16_6
   try clear hcz17_0 hcz17_1 hcz17_2 hcz17_3 hcz17_4 hcz17_5 hcz17_6
   try clear hcz18_0 hcz18_1 hcz18_2 hcz18_3 hcz18_4 hcz18_5 hcz18_6
   try clear hcz19_0 hcz19_1 hcz19_2 hcz19_3 hcz19_4 hcz19_5 hcz19_6
   try clear hcz20_0 hcz20_1 hcz20_2 hcz20_3 hcz20_4 hcz20_5 hcz20_6
   try clear hcz6_0 hcz6_1 hcz6_2 hcz6_3 hcz6_4 hcz6_5 hcz6_6
   try clear hfz16_0 hfz16_1 hfz16_2 hfz16_3 hfz16_4 hfz16_5 hfz16_6
   try clear hfz17_0 hfz17_1 hfz17_2 hfz17_3 hfz17_4 hfz17_5 hfz17_6
   try clear hfz18_0 hfz18_1 hfz18_2 hfz18_3 hfz18_4 hfz18_5 hfz18_6
   try clear hfz19_0 hfz19_1 hfz19_2 hfz19_3 hfz19_4 hfz19_5 hfz19_6
   try clear hfz20_0 hfz20_1 hfz20_2 hfz20_3 hfz20_4 hfz20_5 hfz20_6
   try clear hfz6_0 hfz6_1 hfz6_2 hfz6_3 hfz6_4 hfz6_5 hfz6_6
   obtain ⟨kq, x38_3, rfl, HA, HJ3, BK130, HB⟩ := hcut
   cases kq with
   | zero => exact absurd HA.out (by simp [garmentref27_Check.j0])
   | succ kj3 =>
    have H := HA.out; clear HA; simp only [garmentref27_Check.j0] at H
    by_cases c21 : x38_3 = true
    ·subst c21
     have H1 : (some 3) = some r := by rw [if_pos rfl] at H; exact H
     clear H; have H := H1; clear H1; obtain rfl := Option.some.inj H
     go_wp2
     go_ret
     exact ⟨by first | rfl | (simp [errW_none, errW_some] <;> rfl) | (simp [*, errW_none, errW_some] <;> rfl), be HB.out⟩
    ·replace c21 := Bool.eq_false_iff.mpr c21; subst c21
     have H1 : (if (l0_6.length : Int) > 20 then (some 5) else (garmentref27_Check.l0 kj3 0 a0_0 a0_1 a0_2 a0_3 a0_4 a0_5 l0_6)) = some r := by rw [if_neg (show ¬ (false = true) by decide)] at H; exact H
     clear H; have H := H1; clear H1
     by_cases c22 : (l0_6.length : Int) > 20
     ·rw [if_pos c22] at H; have c22b0 : decide (20 < (l0_6.length : Int)) = true := decide_eq_true c22; have c22b1 : decide (20 < l0_6.length) = true := decide_eq_true (by omega); clear c22; obtain rfl := Option.some.inj H; have hcz23_0 := bc BK130.out 0 (.string a0_0) rfl; have hcz23_1 := bc BK130.out 1 (.int .i64 a0_1) rfl; have hcz23_2 := bc BK130.out 2 (.int .i64 a0_2) rfl; have hcz23_3 := bc BK130.out 3 (.int .i64 a0_3) rfl; have hcz23_4 := bc BK130.out 4 (.int .i64 a0_4) rfl; have hcz23_5 := bc BK130.out 5 (.int .i64 a0_5) rfl; have hcz23_6 := bc BK130.out 6 (.slice A0_6 l0_6.length c0_6) rfl; have hfz23_0 := blk_frozen BK130.out 0; have hfz23_1 := blk_frozen BK130.out 1; have hfz23_2 := blk_frozen BK130.out 2; have hfz23_3 := blk_frozen BK130.out 3; have hfz23_4 := blk_frozen BK130.out 4; have hfz23_5 := blk_frozen BK130.out 5; have hfz23_6 := blk_frozen BK130.out 6
      go_wp2
      go_ret
      exact ⟨by first | rfl | (simp [errW_none, errW_some] <;> rfl) | (simp [*, errW_none, errW_some] <;> rfl), be HB.out⟩
     ·rw [if_neg c22] at H; have c22b0 : decide (20 < (l0_6.length : Int)) = false := decide_eq_false c22; have c22b1 : decide (20 < l0_6.length) = false := decide_eq_false (by omega); clear c22; have H' := Aside0.mk H; clear H; have hcz24_0 := bc BK130.out 0 (.string a0_0) rfl; have hcz24_1 := bc BK130.out 1 (.int .i64 a0_1) rfl; have hcz24_2 := bc BK130.out 2 (.int .i64 a0_2) rfl; have hcz24_3 := bc BK130.out 3 (.int .i64 a0_3) rfl; have hcz24_4 := bc BK130.out 4 (.int .i64 a0_4) rfl; have hcz24_5 := bc BK130.out 5 (.int .i64 a0_5) rfl; have hcz24_6 := bc BK130.out 6 (.slice A0_6 l0_6.length c0_6) rfl; have hfz24_0 := blk_frozen BK130.out 0; have hfz24_1 := blk_frozen BK130.out 1; have hfz24_2 := blk_frozen BK130.out 2; have hfz24_3 := blk_frozen BK130.out 3; have hfz24_4 := blk_frozen BK130.out 4; have hfz24_5 := blk_frozen BK130.out 5; have hfz24_6 := blk_frozen BK130.out 6
      go_wp2
      go_loopg [3] kj3 (fun kq v3 w' => ∃ (x3_2 : Int), v3 = .int .i64 x3_2 ∧ Aside0 (garmentref27_Check.l0 kq x3_2 a0_0 a0_1 a0_2 a0_3 a0_4 a0_5 l0_6 = some r) ∧ Aside0 (kq ≤ kj3) ∧ Aside0 (w'.heap[gb130]? = some (.cells #[.string a0_0, .int .i64 a0_1, .int .i64 a0_2, .int .i64 a0_3, .int .i64 a0_4, .int .i64 a0_5, (.slice A0_6 l0_6.length c0_6)] 26 (0, 0))) ∧ Aside0 (Below w.heap.size w w'))
      case atStart => exact ⟨(0), (by first | rfl | (simp; done) | (simp [*]; done)), H', ⟨Nat.le_refl _⟩, ⟨bu (BK130.out)⟩, ⟨be HB.out⟩⟩
      case round =>
       clear H'
       try clear c1
       try clear c2
       try clear p2
       try clear c3
       try clear c8
       try clear c10
       try clear c12
       try clear c14
       try clear c21
       try clear c22
       try clear c22b0
       try clear c22b1
       try clear hcz16_0 hcz16_1 hcz16_2 hcz16_3 hcz16_4 hcz16_5 hcz16_6
       try clear hcz17_0 hcz17_1 hcz17_2 hcz17_3 hcz17_4 hcz17_5 hcz17_6
       try clear hcz18_0 hcz18_1 hcz18_2 hcz18_3 hcz18_4 hcz18_5 hcz18_6
       try clear hcz19_0 hcz19_1 hcz19_2 hcz19_3 hcz19_4 hcz19_5 hcz19_6
       try clear hcz20_0 hcz20_1 hcz20_2 hcz20_3 hcz20_4 hcz20_5 hcz20_6
       try clear hcz23_0 hcz23_1 hcz23_2 hcz23_3 hcz23_4 hcz23_5 hcz23_6
       try clear hcz24_0 hcz24_1 hcz24_2 hcz24_3 hcz24_4 hcz24_5 hcz24_6
       try clear hcz6_0 hcz6_1 hcz6_2 hcz6_3 hcz6_4 hcz6_5 hcz6_6
       try clear hfz16_0 hfz16_1 hfz16_2 hfz16_3 hfz16_4 hfz16_5 hfz16_6
       try clear hfz17_0 hfz17_1 hfz17_2 hfz17_3 hfz17_4 hfz17_5 hfz17_6
       try clear hfz18_0 hfz18_1 hfz18_2 hfz18_3 hfz18_4 hfz18_5 hfz18_6
       try clear hfz19_0 hfz19_1 hfz19_2 hfz19_3 hfz19_4 hfz19_5 hfz19_6
       try clear hfz20_0 hfz20_1 hfz20_2 hfz20_3 hfz20_4 hfz20_5 hfz20_6
       try clear hfz23_0 hfz23_1 hfz23_2 hfz23_3 hfz23_4 hfz23_5 hfz23_6
       try clear hfz24_0 hfz24_1 hfz24_2 hfz24_3 hfz24_4 hfz24_5 hfz24_6
       try clear hfz6_0 hfz6_1 hfz6_2 hfz6_3 hfz6_4 hfz6_5 hfz6_6
       try clear p2
       obtain ⟨x3_2, rfl, HA, HK2, BK130, HB⟩ := hrel
       cases gk with
       | zero => exact absurd HA.out (by simp [garmentref27_Check.l0])
       | succ k2 =>
        have H := HA.out; clear HA; simp only [garmentref27_Check.l0] at H
        by_cases c25 : x3_2 < (l0_6.length : Int)
        ·rw [if_pos c25] at H; have c25b0 : decide (x3_2 < (l0_6.length : Int)) = true := decide_eq_true c25; clear c25
         by_cases c26 : 0 ≤ x3_2
         ·rw [if_pos c26] at H; have c26b0 : decide (0 ≤ x3_2) = true := decide_eq_true c26; clear c26; replace H := Option.bind_eq_some_iff.mp H; obtain ⟨t138, A270, H⟩ := H; replace H : (if t138 = true then (garmentref27_Check.l0 k2 (wrap64 (x3_2 + 1)) a0_0 a0_1 a0_2 a0_3 a0_4 a0_5 l0_6) else (some 3)) = some r := H; have A27 := Aside0.mk A270; clear A270
          by_cases c28 : t138 = true
          ·subst c28
           have H1 : (garmentref27_Check.l0 k2 (wrap64 (x3_2 + 1)) a0_0 a0_1 a0_2 a0_3 a0_4 a0_5 l0_6) = some r := by rw [if_pos rfl] at H; exact H
           clear H; have H := H1; clear H1; have H' := Aside0.mk H; clear H; have hcz29_0 := bc BK130.out 0 (.string a0_0) rfl; have hcz29_1 := bc BK130.out 1 (.int .i64 a0_1) rfl; have hcz29_2 := bc BK130.out 2 (.int .i64 a0_2) rfl; have hcz29_3 := bc BK130.out 3 (.int .i64 a0_3) rfl; have hcz29_4 := bc BK130.out 4 (.int .i64 a0_4) rfl; have hcz29_5 := bc BK130.out 5 (.int .i64 a0_5) rfl; have hcz29_6 := bc BK130.out 6 (.slice A0_6 l0_6.length c0_6) rfl; have hfz29_0 := blk_frozen BK130.out 0; have hfz29_1 := blk_frozen BK130.out 1; have hfz29_2 := blk_frozen BK130.out 2; have hfz29_3 := blk_frozen BK130.out 3; have hfz29_4 := blk_frozen BK130.out 4; have hfz29_5 := blk_frozen BK130.out 5; have hfz29_6 := blk_frozen BK130.out 6
           try go_wp2
           replace BK130 := Aside0.mk (blk_drew BK130.out); replace HB := Aside0.mk (below_drew1 HB.out); have p137 : 0 ≤ (x3_2 : Int) := oda; have q137 : x3_2 < (l0_6.length : Int) := oda; obtain ⟨ad137, e137, hx137_0, hx137_1, hx137_2, hx137_3⟩ := at_T46 HR0_6.out x3_2 p137 q137; have hw137_3 := hx137_3; have hw137_2 := hx137_2; have hw137_1 := hx137_1; have hw137_0 := hx137_0; cases e137; replace hx137_0 := (HB.out.cell (World.block_lt_of_cell? w _ hx137_0)).trans hx137_0; replace hx137_1 := (HB.out.cell (World.block_lt_of_cell? w _ hx137_1)).trans hx137_1; replace hx137_2 := (HB.out.cell (World.block_lt_of_cell? w _ hx137_2)).trans hx137_2; replace hx137_3 := (HB.out.cell (World.block_lt_of_cell? w _ hx137_3)).trans hx137_3; replace p137 := eq_true p137; replace q137 := eq_true q137
           refine start_ (n := 8) (S := fun w' => w'.cell? ⟨gb130, 0, none⟩ = some (.string a0_0) ∧ w'.cell? ⟨gb130, 1, none⟩ = some (.int .i64 a0_1) ∧ w'.cell? ⟨gb130, 2, none⟩ = some (.int .i64 a0_2) ∧ w'.cell? ⟨gb130, 3, none⟩ = some (.int .i64 a0_3) ∧ w'.cell? ⟨gb130, 4, none⟩ = some (.int .i64 a0_4) ∧ w'.cell? ⟨gb130, 5, none⟩ = some (.int .i64 a0_5) ∧ w'.cell? ⟨gb130, 6, none⟩ = some (.slice (some ad137) l0_6.length c0_6) ∧ w'.cell? (ad137.add ((x3_2).toNat * 4)) = some (.int .i64 ((rd_T46 l0_6 x3_2).f0)) ∧ w'.cell? ⟨(ad137.add ((x3_2).toNat * 4)).block, (ad137.add ((x3_2).toNat * 4)).off + 1, none⟩ = some (.int .i64 ((rd_T46 l0_6 x3_2).f1)) ∧ w'.cell? ⟨(ad137.add ((x3_2).toNat * 4)).block, (ad137.add ((x3_2).toNat * 4)).off + 2, none⟩ = some (.int .i64 ((rd_T46 l0_6 x3_2).f2)) ∧ w'.cell? ⟨(ad137.add ((x3_2).toNat * 4)).block, (ad137.add ((x3_2).toNat * 4)).off + 3, none⟩ = some (.int .i64 ((rd_T46 l0_6 x3_2).f3))) (ds := []) #[false, false, false, false, false, false, false, false] (by kernel_rfl) rfl rfl ⟨(blk_cell BK130.out 0).trans rfl, (blk_cell BK130.out 1).trans rfl, (blk_cell BK130.out 2).trans rfl, (blk_cell BK130.out 3).trans rfl, (blk_cell BK130.out 4).trans rfl, (blk_cell BK130.out 5).trans rfl, (blk_cell BK130.out 6).trans rfl, ((HB.out.cell (World.block_lt_of_cell? w _ hw137_0)).trans hw137_0), ((HB.out.cell (World.block_lt_of_cell? w _ hw137_1)).trans hw137_1), ((HB.out.cell (World.block_lt_of_cell? w _ hw137_2)).trans hw137_2), ((HB.out.cell (World.block_lt_of_cell? w _ hw137_3)).trans hw137_3)⟩ (fun hHeld => ?_); refine with_tabW garmentref27_Check.tab10 garmentref27_Check.bits10 (fun HT_ HW_ => ?_)
           generalize wr.drew = w30 at BK130 HB hx137_0 hx137_1 hx137_2 hx137_3 hHeld ⊢; refine pureA (i := 0) (N := some 50) #[true, false, false, false, false, false, false, false] rfl rfl HT_.out (by kernel_rfl) ?_; refine pureA (i := 2) (N := some 52) #[true, false, true, false, false, false, false, false] rfl rfl HT_.out (by kernel_rfl) ?_; refine take_ (i := 1) (N := some 51) (v := ?_) (a' := ?_) #[true, true, true, false, false, false, false, false] rfl rfl (take_ofW HT_.out HW_.out (by kernel_rfl)) (fun _ _ _ h => h) (Or.inl ⟨by rfl, ?_⟩) hHeld ?_ ?_
           rotate_left
           ·rintro w' ⟨s0, s1, s2, s3, s4, s5, s6, s7, s8, s9, s10⟩
            go_simp
            with_reducible rfl
           rotate_left
           ·simp only [Act.put, List.setIfInBounds_toArray, List.set_cons_zero, List.set_cons_succ, i64_w, i32_w]
            rfl
           refine pureA (i := 3) (N := some 53) #[true, true, true, true, false, false, false, false] rfl rfl HT_.out (by kernel_rfl) ?_; refine take_ (i := 4) (N := some 54) (v := ?_) (a' := ?_) #[true, true, true, true, true, false, false, false] rfl rfl (take_ofW HT_.out HW_.out (by kernel_rfl)) (fun _ _ _ h => h) (Or.inl ⟨by rfl, ?_⟩) hHeld ?_ ?_
           rotate_left
           ·rintro w' ⟨s0, s1, s2, s3, s4, s5, s6, s7, s8, s9, s10⟩
            go_simp
            with_reducible rfl
           rotate_left
           ·simp only [Act.put, List.setIfInBounds_toArray, List.set_cons_zero, List.set_cons_succ, i64_w, i32_w]
            rfl
           refine take_ (i := 5) (N := some 55) (v := ?_) (a' := ?_) #[true, true, true, true, true, true, false, false] rfl rfl (take_ofW HT_.out HW_.out (by kernel_rfl)) (fun _ _ _ h => h) (Or.inl ⟨by rfl, ?_⟩) hHeld ?_ ?_
           rotate_left
           ·rintro w' ⟨s0, s1, s2, s3, s4, s5, s6, s7, s8, s9, s10⟩
            go_simp
            with_reducible rfl
           rotate_left
           ·simp only [Act.put, List.setIfInBounds_toArray, List.set_cons_zero, List.set_cons_succ, i64_w, i32_w]
            rfl
           refine one_ (i := 6) (N := some 56) #[true, true, true, true, true, true, true, false] rfl rfl (one_of HT_.out (by kernel_rfl)) (by decide) (fun K hK => ?_); refine goes_ Tryz.func29 (by kernel_rfl) rfl #[.agg #[.int .i64 ((rd_T46 l0_6 x3_2).f0), .int .i64 ((rd_T46 l0_6 x3_2).f1), .int .i64 ((rd_T46 l0_6 x3_2).f2), .int .i64 ((rd_T46 l0_6 x3_2).f3)], .agg #[.string a0_0, .int .i64 a0_1, .int .i64 a0_2, .int .i64 a0_3, .int .i64 a0_4, .int .i64 a0_5, .slice (some ad137) l0_6.length c0_6]] (by rfl) rfl rfl (by (try simp only [List.map_toArray, List.map_cons, List.map_nil]); first | done | rfl | (simp only [List.length_drop, List.length_take]; rfl)) ?_
           with_reducible refine (garmentref27_fits.calls ((rd_T46 l0_6 x3_2).f0) ((rd_T46 l0_6 x3_2).f1) ((rd_T46 l0_6 x3_2).f2) ((rd_T46 l0_6 x3_2).f3) a0_0 a0_1 a0_2 a0_3 a0_4 a0_5 _ _ l0_6 true _ ?side1 ?side2 A27.out).mono ?_
           (case side1 => exact cu (Kd.C_below HR0_6.out HB.out))
           (case side2 => exact HC0_6.out)
           rintro e w31 ⟨rfl, hb⟩
           refine ⟨_, rfl, ?_⟩; replace BK130 := Aside0.mk (blk_below (bu BK130.out) hb); replace HB := Aside0.mk (below_step (be HB.out) hb)
           (try clear hb)
           (try clear hb2)
           (try clear hk)
           (try clear hi)
           refine hK.out _ _ ⟨(blk_cell BK130.out 0).trans rfl, (blk_cell BK130.out 1).trans rfl, (blk_cell BK130.out 2).trans rfl, (blk_cell BK130.out 3).trans rfl, (blk_cell BK130.out 4).trans rfl, (blk_cell BK130.out 5).trans rfl, (blk_cell BK130.out 6).trans rfl, ((HB.out.cell (World.block_lt_of_cell? w _ hw137_0)).trans hw137_0), ((HB.out.cell (World.block_lt_of_cell? w _ hw137_1)).trans hw137_1), ((HB.out.cell (World.block_lt_of_cell? w _ hw137_2)).trans hw137_2), ((HB.out.cell (World.block_lt_of_cell? w _ hw137_3)).trans hw137_3)⟩ (fun hHeld => ?_); clear hK K; refine norm_ (a' := ?_) ?_ ?_
           rotate_left
           ·show Act.put _ (some 56) _ = _
            simp only [Act.put, List.setIfInBounds_toArray, List.set_cons_zero, List.set_cons_succ, i64_w, i32_w]
            rfl
           refine pureA (i := 7) (N := some 57) #[true, true, true, true, true, true, true, true] rfl rfl HT_.out (by kernel_rfl) ?_; refine done_ (done_of HT_.out (by kernel_rfl)) ?_
           try go_wp2
           go_roundg k2
           case measure => have := HJ3.out; have := HK2.out; omega
           case rel => exact ⟨(wrap64 (x3_2 + 1)), (by first | rfl | (simp; done) | (simp [*]; done)), H', ⟨by have := HJ3.out; have := HK2.out; omega⟩, ⟨bu (BK130.out)⟩, ⟨be HB.out⟩⟩
          ·replace c28 := Bool.eq_false_iff.mpr c28; subst c28
           have H1 : (some 3) = some r := by rw [if_neg (show ¬ (false = true) by decide)] at H; exact H
           clear H; have H := H1; clear H1; obtain rfl := Option.some.inj H; have hcz32_0 := bc BK130.out 0 (.string a0_0) rfl; have hcz32_1 := bc BK130.out 1 (.int .i64 a0_1) rfl; have hcz32_2 := bc BK130.out 2 (.int .i64 a0_2) rfl; have hcz32_3 := bc BK130.out 3 (.int .i64 a0_3) rfl; have hcz32_4 := bc BK130.out 4 (.int .i64 a0_4) rfl; have hcz32_5 := bc BK130.out 5 (.int .i64 a0_5) rfl; have hcz32_6 := bc BK130.out 6 (.slice A0_6 l0_6.length c0_6) rfl; have hfz32_0 := blk_frozen BK130.out 0; have hfz32_1 := blk_frozen BK130.out 1; have hfz32_2 := blk_frozen BK130.out 2; have hfz32_3 := blk_frozen BK130.out 3; have hfz32_4 := blk_frozen BK130.out 4; have hfz32_5 := blk_frozen BK130.out 5; have hfz32_6 := blk_frozen BK130.out 6
           try go_wp2
           replace BK130 := Aside0.mk (blk_drew BK130.out); replace HB := Aside0.mk (below_drew1 HB.out); have p137 : 0 ≤ (x3_2 : Int) := oda; have q137 : x3_2 < (l0_6.length : Int) := oda; obtain ⟨ad137, e137, hx137_0, hx137_1, hx137_2, hx137_3⟩ := at_T46 HR0_6.out x3_2 p137 q137; have hw137_3 := hx137_3; have hw137_2 := hx137_2; have hw137_1 := hx137_1; have hw137_0 := hx137_0; cases e137; replace hx137_0 := (HB.out.cell (World.block_lt_of_cell? w _ hx137_0)).trans hx137_0; replace hx137_1 := (HB.out.cell (World.block_lt_of_cell? w _ hx137_1)).trans hx137_1; replace hx137_2 := (HB.out.cell (World.block_lt_of_cell? w _ hx137_2)).trans hx137_2; replace hx137_3 := (HB.out.cell (World.block_lt_of_cell? w _ hx137_3)).trans hx137_3; replace p137 := eq_true p137; replace q137 := eq_true q137
           refine start_ (n := 8) (S := fun w' => w'.cell? ⟨gb130, 0, none⟩ = some (.string a0_0) ∧ w'.cell? ⟨gb130, 1, none⟩ = some (.int .i64 a0_1) ∧ w'.cell? ⟨gb130, 2, none⟩ = some (.int .i64 a0_2) ∧ w'.cell? ⟨gb130, 3, none⟩ = some (.int .i64 a0_3) ∧ w'.cell? ⟨gb130, 4, none⟩ = some (.int .i64 a0_4) ∧ w'.cell? ⟨gb130, 5, none⟩ = some (.int .i64 a0_5) ∧ w'.cell? ⟨gb130, 6, none⟩ = some (.slice (some ad137) l0_6.length c0_6) ∧ w'.cell? (ad137.add ((x3_2).toNat * 4)) = some (.int .i64 ((rd_T46 l0_6 x3_2).f0)) ∧ w'.cell? ⟨(ad137.add ((x3_2).toNat * 4)).block, (ad137.add ((x3_2).toNat * 4)).off + 1, none⟩ = some (.int .i64 ((rd_T46 l0_6 x3_2).f1)) ∧ w'.cell? ⟨(ad137.add ((x3_2).toNat * 4)).block, (ad137.add ((x3_2).toNat * 4)).off + 2, none⟩ = some (.int .i64 ((rd_T46 l0_6 x3_2).f2)) ∧ w'.cell? ⟨(ad137.add ((x3_2).toNat * 4)).block, (ad137.add ((x3_2).toNat * 4)).off + 3, none⟩ = some (.int .i64 ((rd_T46 l0_6 x3_2).f3))) (ds := []) #[false, false, false, false, false, false, false, false] (by kernel_rfl) rfl rfl ⟨(blk_cell BK130.out 0).trans rfl, (blk_cell BK130.out 1).trans rfl, (blk_cell BK130.out 2).trans rfl, (blk_cell BK130.out 3).trans rfl, (blk_cell BK130.out 4).trans rfl, (blk_cell BK130.out 5).trans rfl, (blk_cell BK130.out 6).trans rfl, ((HB.out.cell (World.block_lt_of_cell? w _ hw137_0)).trans hw137_0), ((HB.out.cell (World.block_lt_of_cell? w _ hw137_1)).trans hw137_1), ((HB.out.cell (World.block_lt_of_cell? w _ hw137_2)).trans hw137_2), ((HB.out.cell (World.block_lt_of_cell? w _ hw137_3)).trans hw137_3)⟩ (fun hHeld => ?_); refine with_tabW garmentref27_Check.tab10 garmentref27_Check.bits10 (fun HT_ HW_ => ?_)
           generalize wr.drew = w33 at BK130 HB hx137_0 hx137_1 hx137_2 hx137_3 hHeld ⊢; refine pureA (i := 0) (N := some 50) #[true, false, false, false, false, false, false, false] rfl rfl HT_.out (by kernel_rfl) ?_; refine pureA (i := 2) (N := some 52) #[true, false, true, false, false, false, false, false] rfl rfl HT_.out (by kernel_rfl) ?_; refine take_ (i := 1) (N := some 51) (v := ?_) (a' := ?_) #[true, true, true, false, false, false, false, false] rfl rfl (take_ofW HT_.out HW_.out (by kernel_rfl)) (fun _ _ _ h => h) (Or.inl ⟨by rfl, ?_⟩) hHeld ?_ ?_
           rotate_left
           ·rintro w' ⟨s0, s1, s2, s3, s4, s5, s6, s7, s8, s9, s10⟩
            go_simp
            with_reducible rfl
           rotate_left
           ·simp only [Act.put, List.setIfInBounds_toArray, List.set_cons_zero, List.set_cons_succ, i64_w, i32_w]
            rfl
           refine pureA (i := 3) (N := some 53) #[true, true, true, true, false, false, false, false] rfl rfl HT_.out (by kernel_rfl) ?_; refine take_ (i := 4) (N := some 54) (v := ?_) (a' := ?_) #[true, true, true, true, true, false, false, false] rfl rfl (take_ofW HT_.out HW_.out (by kernel_rfl)) (fun _ _ _ h => h) (Or.inl ⟨by rfl, ?_⟩) hHeld ?_ ?_
           rotate_left
           ·rintro w' ⟨s0, s1, s2, s3, s4, s5, s6, s7, s8, s9, s10⟩
            go_simp
            with_reducible rfl
           rotate_left
           ·simp only [Act.put, List.setIfInBounds_toArray, List.set_cons_zero, List.set_cons_succ, i64_w, i32_w]
            rfl
           refine take_ (i := 5) (N := some 55) (v := ?_) (a' := ?_) #[true, true, true, true, true, true, false, false] rfl rfl (take_ofW HT_.out HW_.out (by kernel_rfl)) (fun _ _ _ h => h) (Or.inl ⟨by rfl, ?_⟩) hHeld ?_ ?_
           rotate_left
           ·rintro w' ⟨s0, s1, s2, s3, s4, s5, s6, s7, s8, s9, s10⟩
            go_simp
            with_reducible rfl
           rotate_left
           ·simp only [Act.put, List.setIfInBounds_toArray, List.set_cons_zero, List.set_cons_succ, i64_w, i32_w]
            rfl
           refine one_ (i := 6) (N := some 56) #[true, true, true, true, true, true, true, false] rfl rfl (one_of HT_.out (by kernel_rfl)) (by decide) (fun K hK => ?_); refine goes_ Tryz.func29 (by kernel_rfl) rfl #[.agg #[.int .i64 ((rd_T46 l0_6 x3_2).f0), .int .i64 ((rd_T46 l0_6 x3_2).f1), .int .i64 ((rd_T46 l0_6 x3_2).f2), .int .i64 ((rd_T46 l0_6 x3_2).f3)], .agg #[.string a0_0, .int .i64 a0_1, .int .i64 a0_2, .int .i64 a0_3, .int .i64 a0_4, .int .i64 a0_5, .slice (some ad137) l0_6.length c0_6]] (by rfl) rfl rfl (by (try simp only [List.map_toArray, List.map_cons, List.map_nil]); first | done | rfl | (simp only [List.length_drop, List.length_take]; rfl)) ?_
           with_reducible refine (garmentref27_fits.calls ((rd_T46 l0_6 x3_2).f0) ((rd_T46 l0_6 x3_2).f1) ((rd_T46 l0_6 x3_2).f2) ((rd_T46 l0_6 x3_2).f3) a0_0 a0_1 a0_2 a0_3 a0_4 a0_5 _ _ l0_6 false _ ?side1 ?side2 A27.out).mono ?_
           (case side1 => exact cu (Kd.C_below HR0_6.out HB.out))
           (case side2 => exact HC0_6.out)
           rintro e w34 ⟨rfl, hb⟩
           refine ⟨_, rfl, ?_⟩; replace BK130 := Aside0.mk (blk_below (bu BK130.out) hb); replace HB := Aside0.mk (below_step (be HB.out) hb)
           (try clear hb)
           (try clear hb2)
           (try clear hk)
           (try clear hi)
           refine hK.out _ _ ⟨(blk_cell BK130.out 0).trans rfl, (blk_cell BK130.out 1).trans rfl, (blk_cell BK130.out 2).trans rfl, (blk_cell BK130.out 3).trans rfl, (blk_cell BK130.out 4).trans rfl, (blk_cell BK130.out 5).trans rfl, (blk_cell BK130.out 6).trans rfl, ((HB.out.cell (World.block_lt_of_cell? w _ hw137_0)).trans hw137_0), ((HB.out.cell (World.block_lt_of_cell? w _ hw137_1)).trans hw137_1), ((HB.out.cell (World.block_lt_of_cell? w _ hw137_2)).trans hw137_2), ((HB.out.cell (World.block_lt_of_cell? w _ hw137_3)).trans hw137_3)⟩ (fun hHeld => ?_); clear hK K; refine norm_ (a' := ?_) ?_ ?_
           rotate_left
           ·show Act.put _ (some 56) _ = _
            simp only [Act.put, List.setIfInBounds_toArray, List.set_cons_zero, List.set_cons_succ, i64_w, i32_w]
            rfl
           refine pureA (i := 7) (N := some 57) #[true, true, true, true, true, true, true, true] rfl rfl HT_.out (by kernel_rfl) ?_; refine done_ (done_of HT_.out (by kernel_rfl)) ?_
           try go_wp2
           go_ret
           exact ⟨by first | rfl | (simp [errW_none, errW_some] <;> rfl) | (simp [*, errW_none, errW_some] <;> rfl), be HB.out⟩
         ·rw [if_neg c26] at H; exact absurd H (by simp)
        ·rw [if_neg c25] at H; have c25b0 : decide (x3_2 < (l0_6.length : Int)) = false := decide_eq_false c25; clear c25; obtain rfl := Option.some.inj H; have hcz35_0 := bc BK130.out 0 (.string a0_0) rfl; have hcz35_1 := bc BK130.out 1 (.int .i64 a0_1) rfl; have hcz35_2 := bc BK130.out 2 (.int .i64 a0_2) rfl; have hcz35_3 := bc BK130.out 3 (.int .i64 a0_3) rfl; have hcz35_4 := bc BK130.out 4 (.int .i64 a0_4) rfl; have hcz35_5 := bc BK130.out 5 (.int .i64 a0_5) rfl; have hcz35_6 := bc BK130.out 6 (.slice A0_6 l0_6.length c0_6) rfl; have hfz35_0 := blk_frozen BK130.out 0; have hfz35_1 := blk_frozen BK130.out 1; have hfz35_2 := blk_frozen BK130.out 2; have hfz35_3 := blk_frozen BK130.out 3; have hfz35_4 := blk_frozen BK130.out 4; have hfz35_5 := blk_frozen BK130.out 5; have hfz35_6 := blk_frozen BK130.out 6
         go_wp2
         go_ret
         exact ⟨by first | rfl | (simp [errW_none, errW_some] <;> rfl) | (simp [*, errW_none, errW_some] <;> rfl), be HB.out⟩
 ·replace c3 := Bool.eq_false_iff.mpr c3; subst c3
  have H1 : (some 1) = some r := by rw [if_neg (show ¬ (false = true) by decide)] at H; exact H
  clear H; have H := H1; clear H1; obtain rfl := Option.some.inj H
  go_enter Tryz.func12, Tryz.ntmps12
  go_wp2_with (first | ((with_reducible refine gate_dst (N := 1) rfl ?_); refine box_event ?hg (N := 1) ?hd (cs := #[.string a0_0, .int .i64 a0_1, .int .i64 a0_2, .int .i64 a0_3, .int .i64 a0_4, .int .i64 a0_5, .slice A0_6 l0_6.length c0_6]) (t := 26) ?hr ?_; (case hd => rfl); (case hg => rfl); (case hr => first | (go_simp; done) | (go_simp; rfl)); intro gb130 hg w36 hbox hb; have BK130 := Aside0.mk (hbox); have GW130 := Aside0.mk ((by rw [hg]; exact (below_size (be HB.out)) : w.heap.size ≤ gb130)); have GE130 := Aside0.mk ((by rw [hg]; exact (below_size (be HB.out)) : w.heap.size ≤ gb130)); replace HB := Aside0.mk (below_step (be HB.out) hb); clear hb hbox hg; have hcz37_0 := bc BK130.out 0 (.string a0_0) rfl; have hcz37_1 := bc BK130.out 1 (.int .i64 a0_1) rfl; have hcz37_2 := bc BK130.out 2 (.int .i64 a0_2) rfl; have hcz37_3 := bc BK130.out 3 (.int .i64 a0_3) rfl; have hcz37_4 := bc BK130.out 4 (.int .i64 a0_4) rfl; have hcz37_5 := bc BK130.out 5 (.int .i64 a0_5) rfl; have hcz37_6 := bc BK130.out 6 (.slice A0_6 l0_6.length c0_6) rfl; have hfz37_0 := blk_frozen BK130.out 0; have hfz37_1 := blk_frozen BK130.out 1; have hfz37_2 := blk_frozen BK130.out 2; have hfz37_3 := blk_frozen BK130.out 3; have hfz37_4 := blk_frozen BK130.out 4; have hfz37_5 := blk_frozen BK130.out 5; have hfz37_6 := blk_frozen BK130.out 6) | ((with_reducible refine gate_callee (f := 27) rfl ?_); refine goesA (some 6) rfl rfl Tryz.func27 (by kernel_rfl) rfl #[.string a0_0] rfl ?_; (with_reducible refine (garmentref27_id.calls k a0_0 false _ A2.out).mono ?_); rintro e w' ⟨rfl, ⟨nd, rfl⟩⟩; refine ⟨_, rfl, ?_⟩))
  go_ret
  exact ⟨by first | rfl | (simp [errW_none, errW_some] <;> rfl) | (simp [*, errW_none, errW_some] <;> rfl), be HB.out⟩

end Go.Proofs.YtdblkmnbkpphjaaGreatDoor.P
namespace Go.Proofs.YtdblkmnbkpphjaaGreatDoor.P
open Go.RowKit Go.Proofs.YtdblkmnbkpphjaaGreatDoorW.PrintWords Go.Proofs.YtdblkmnbkpphjaaGreatDoorW.PrintLast Go.Proofs.YtdblkmnbkpphjaaGreatDoorW.PrintMore Go.Proofs.YtdblkmnbkpphjaaGreatDoorW.PrintAuto
attribute [local go_sem] max2_int min2_int max_two min_two max_three min_three max_four min_four   -- for this text's walks alone
set_option linter.unusedVariables false
set_option linter.unusedSimpArgs false

--FLAGS making
--IMPORT Derived.Test.YtdblkmnbkpphjaaGreatDoorIdxS
def roll_has.f (l0 : List S26) (a1 : ByteArray) : Option (Bool) := some (l0.any fun r => r.f0.toList == a1.toList)
set_option maxHeartbeats 1000000 in
theorem roll_has.one (x : S26) (A6 : Option Addr) (c6 : Nat) (id : ByteArray) (ad : Addr) (W : World) (hc : W.cell? ad = some (.string id)) :
  Calls Tryz.prog 50 #[.agg #[.string x.f0, .int .i64 x.f1, .int .i64 x.f2, .int .i64 x.f3.f0, .int .i64 x.f3.f1, .int .i64 x.f3.f2, .slice A6 x.f4.length c6], .pointer (some ad)] W fun e w' => e = .returned (.bool (x.f0.toList == id.toList)) ∧ Below W.heap.size W w' := by
 have hlt := World.block_lt_of_cell? W _ hc
 have hc2 : ∀ o, (W.alloc o).cell? ad = some (.string id) := fun o => pw_cell_below (below_alloc (Below.refl _ _) o) hc
 go_enter Tryz.func50, Tryz.ntmps50
 go_wp2
 go_ret
 exact ⟨rfl, below_alloc (Below.refl _ _) _⟩
theorem roll_has.calls (A0 : Option Addr) (c0 : Nat) (l0 : List S26) (a1 : ByteArray) (r : Bool) (w : World) (hr0 : Kd.C k26 w A0 l0.length l0) (hc0 : l0.length ≤ c0) (h : roll_has.f l0 a1 = some r) :
  Calls Tryz.prog 30 #[.slice A0 l0.length c0, .string a1] w fun e w' => e = .returned (.bool r) ∧ Below w.heap.size w w' := by
 have H : Hid (∀ (W : World) (ad : Addr), W.cell? ad = some (.string a1) → Kd.C k26 W A0 l0.length l0 → Calls Tryz.prog 49 #[.slice A0 l0.length c0, .func (.func 50) #[] #[.pointer (some ad)]] W fun e w' => e = .returned (.bool r) ∧ Below W.heap.size W w') := fun W ad hW hC => by
  have hh := containsFunc_T26 50 #[.pointer (some ad)] (enters_of Tryz.func50 (by decide) rfl) (fun r => r.f0.toList == a1.toList) A0 c0 l0 W hC (fun x _ A6 c6 _ _ W2 hB => roll_has.one x A6 c6 a1 ad W2 (pw_cell_below hB hW)); rw [Option.some.inj h] at hh; exact hh
 have HR := Aside0.mk hr0; clear h hr0
 go_enter Tryz.func30, Tryz.ntmps30
 go_wp2_with (go_at_call 49; refine (H.out _ _ (by go_simp) (Kd.C_alloc HR.out _)).mono ?_; rintro e w2 ⟨rfl, hb⟩)
 go_ret
 exact ⟨rfl, below_step (below_alloc (Below.refl _ _) _) hb⟩

end Go.Proofs.YtdblkmnbkpphjaaGreatDoor.P
namespace Go.Proofs.YtdblkmnbkpphjaaGreatDoor.P
open Go.RowKit Go.Proofs.YtdblkmnbkpphjaaGreatDoorW.PrintWords Go.Proofs.YtdblkmnbkpphjaaGreatDoorW.PrintLast Go.Proofs.YtdblkmnbkpphjaaGreatDoorW.PrintMore Go.Proofs.YtdblkmnbkpphjaaGreatDoorW.PrintAuto
attribute [local go_sem] max2_int min2_int max_two min_two max_three min_three max_four min_four   -- for this text's walks alone
set_option linter.unusedVariables false
set_option linter.unusedSimpArgs false

--FLAGS making laid
--IMPORT Derived.Test.YtdblkmnbkpphjaaGreatDoorGL
def strconv_Itoa_52.f (a0 : Int) : Option (ByteArray) := if -9223372036854775808 ≤ a0 ∧ a0 ≤ 9223372036854775807 then some ⟨(itoaL a0).toArray⟩ else none
theorem strconv_Itoa_52.calls (a0 : Int) (r : ByteArray) (w : World) (h : strconv_Itoa_52.f a0 = some r) (hG : Aside0 (GL w)) :
  Calls Tryz.prog 52 #[.int .i64 a0] w fun e w' => e = .returned (.string r) ∧ Below w.heap.size w w' := by
 unfold strconv_Itoa_52.f at h
 split at h
 ·rename_i hb
  obtain rfl := Option.some.inj h; rw [itoaL_eq a0 hb.1 hb.2]; refine (Tryz.strconv_Itoa a0 hb.1 hb.2 w hG.out.p10).mono ?_
  rintro e w' ⟨rfl, k, os, rfl⟩
  exact ⟨rfl, Lib.below_grow _ w (Nat.le_refl _) k os⟩
 ·cases h

end Go.Proofs.YtdblkmnbkpphjaaGreatDoor.P
namespace Go.Proofs.YtdblkmnbkpphjaaGreatDoor.P
open Go.RowKit Go.Proofs.YtdblkmnbkpphjaaGreatDoorW.PrintWords Go.Proofs.YtdblkmnbkpphjaaGreatDoorW.PrintLast Go.Proofs.YtdblkmnbkpphjaaGreatDoorW.PrintMore Go.Proofs.YtdblkmnbkpphjaaGreatDoorW.PrintAuto
attribute [local go_sem] max2_int min2_int max_two min_two max_three min_three max_four min_four   -- for this text's walks alone
set_option linter.unusedVariables false
set_option linter.unusedSimpArgs false

--FLAGS making laid
--IMPORT Derived.Test.YtdblkmnbkpphjaaGreatDoorBld
def flawL (f : S46) : List UInt8 := [32, 102, 108, 97, 119] ++ textL [f.f0, f.f1, f.f2, f.f3]
theorem lit_cell {w : World} {g t : Nat} {ns : List Int} (h : w.heap[g]? = some (.cells (ns.map (Value.int .i64)).toArray t (0, 0))) (k : Nat) (hk : k < ns.length) : w.cell? ⟨g, k, none⟩ = some (.int .i64 (rd ns (k : Int))) := by
 rw [blk_cell h k]
 simp [rd, hk]
theorem lit_in64 {ns : List Int} (h : ns.all in64 = true) (k : Nat) (hk : k < ns.length) : in64 (rd ns (k : Int)) = true := by
 have e : rd ns (k : Int) = ns[k] := by simp [rd, hk]
 rw [e]; exact List.all_eq_true.1 h _ (List.getElem_mem hk)
def rollL (id : List UInt8) (wd ln a b c : Int) (fl : List S46) : List UInt8 := [114, 111, 108, 108, 32] ++ id ++ textL [ln, wd, a, b, c] ++ fl.flatMap flawL
theorem flaws_length (l : List S46) : (l.flatMap flawL).length ≤ 93 * l.length := by
 induction l with
 | nil => simp
 | cons f l ih =>
  have h := textL_length [f.f0, f.f1, f.f2, f.f3]; simp only [List.flatMap_cons, List.length_append, List.length_cons, flawL, List.length_nil] at *
  omega
def flaw64 (f : S46) : Bool := [f.f0, f.f1, f.f2, f.f3].all in64
def roll_text.f (a0_0 : ByteArray) (a0_1 : Int) (a0_2 : Int) (a0_3 : Int) (a0_4 : Int) (a0_5 : Int) (l0_6 : List S46) : Option (ByteArray) := if a0_0.size ≤ 1000000 ∧ [a0_2, a0_1, a0_3, a0_4, a0_5].all in64 = true ∧ l0_6.length ≤ 1000000 ∧ l0_6.all flaw64 = true then some ⟨(rollL a0_0.data.toList a0_1 a0_2 a0_3 a0_4 a0_5 l0_6).toArray⟩ else none
set_option maxHeartbeats 4000000 in
set_option maxRecDepth 100000 in
theorem roll_text.calls (a0_0 : ByteArray) (a0_1 : Int) (a0_2 : Int) (a0_3 : Int) (a0_4 : Int) (a0_5 : Int) (A0_6 : Option Addr) (c0_6 : Nat) (l0_6 : List S46) (r : ByteArray) (w : World) (hr0_6 : Kd.C k46 w A0_6 l0_6.length l0_6) (hc0_6 : l0_6.length ≤ c0_6) (h : roll_text.f a0_0 a0_1 a0_2 a0_3 a0_4 a0_5 l0_6 = some r) (hG : Aside0 (GL w)) :
  Calls Tryz.prog 32 #[.agg #[.string a0_0, .int .i64 a0_1, .int .i64 a0_2, .int .i64 a0_3, .int .i64 a0_4, .int .i64 a0_5, .slice A0_6 l0_6.length c0_6]] w fun e w' => e = .returned (.string r) ∧ Below w.heap.size w w' := by
 unfold roll_text.f at h
 split at h
 ·rename_i hb
  obtain rfl := Option.some.inj h; obtain ⟨hid, h5, hlen, hall⟩ := hb; clear h; have HR0 := Aside0.mk hr0_6; have H5 := Aside0.mk h5; have HA := Aside0.mk hall; clear hr0_6 h5 hall
  go_enter Tryz.func32, Tryz.ntmps32
  go_wp2_with fail
  have HBu := Aside0.mk (bld_new (w.alloc (.cells #[.string a0_0, .int .i64 a0_1, .int .i64 a0_2, .int .i64 a0_3, .int .i64 a0_4, .int .i64 a0_5, .slice A0_6 l0_6.length c0_6] 26)) w.heap.size (by simp)); have BK := Aside0.mk (blk_alloc (heap_alloc_new w (.cells #[.string a0_0, .int .i64 a0_1, .int .i64 a0_2, .int .i64 a0_3, .int .i64 a0_4, .int .i64 a0_5, .slice A0_6 l0_6.length c0_6] 26)) (.cells #[.pointer none, .slice none 0 0] 55)); have HB := Aside0.mk (below_alloc (below_alloc (Below.refl w.heap.size w) (.cells #[.string a0_0, .int .i64 a0_1, .int .i64 a0_2, .int .i64 a0_3, .int .i64 a0_4, .int .i64 a0_5, .slice A0_6 l0_6.length c0_6] 26)) (.cells #[.pointer none, .slice none 0 0] 55))
  have hsz : (w.alloc (.cells #[.string a0_0, .int .i64 a0_1, .int .i64 a0_2, .int .i64 a0_3, .int .i64 a0_4, .int .i64 a0_5, .slice A0_6 l0_6.length c0_6] 26)).heap.size = w.heap.size + 1 := by simp
  rw [hsz] at HBu; clear hsz; refine (bld_write w.heap.size (w.heap.size + 1) [] _ _ HBu.out (by rw [ByteArray.size_append]; show 0 + (5 + a0_0.size) ≤ _; omega) (HB.out.size)).mono ?_
  rintro e w1 ⟨rfl, hbu, hb, hk⟩
  replace HBu := Aside0.mk hbu; replace BK := Aside0.mk (kept_blk BK.out hk (by simp) (by decide)); replace HB := Aside0.mk (HB.out.trans hb); clear hbu hb hk; have c0 := bc BK.out 0 (.string a0_0) rfl; have c1 := bc BK.out 1 (.int .i64 a0_1) rfl; have c2 := bc BK.out 2 (.int .i64 a0_2) rfl; have c3 := bc BK.out 3 (.int .i64 a0_3) rfl; have c4 := bc BK.out 4 (.int .i64 a0_4) rfl; have c5 := bc BK.out 5 (.int .i64 a0_5) rfl; have c6 := bc BK.out 6 (.slice A0_6 l0_6.length c0_6) rfl
  go_wp2_with fail
  have BL := Aside0.mk (show (w1.alloc (.cells #[.int .i64 a0_2, .int .i64 a0_1, .int .i64 a0_3, .int .i64 a0_4, .int .i64 a0_5] 3)).heap[w1.heap.size]? = some (.cells ([a0_2, a0_1, a0_3, a0_4, a0_5].map (Value.int .i64)).toArray 3 (0, 0)) from heap_alloc_new w1 _)
  have hg1 : w.heap.size + 1 < w1.heap.size := by have := HB.out.size; have := bld_lt HBu.out; omega
  clear c0 c1 c2 c3 c4 c5 c6
  go_loopw [29] (fun i wr => ∃ k : Nat, k ≤ 5 ∧ i = .int .i64 k ∧ Aside0 (Bld w.heap.size (w.heap.size + 1) (([] ++ ((⟨#[114, 111, 108, 108, 32]⟩ : ByteArray) ++ a0_0).data.toList) ++ textL ([a0_2, a0_1, a0_3, a0_4, a0_5].take k)) wr) ∧ Aside0 (wr.heap[w.heap.size]? = some (.cells #[.string a0_0, .int .i64 a0_1, .int .i64 a0_2, .int .i64 a0_3, .int .i64 a0_4, .int .i64 a0_5, .slice A0_6 l0_6.length c0_6] 26 (0, 0))) ∧ Aside0 (wr.heap[w1.heap.size]? = some (.cells ([a0_2, a0_1, a0_3, a0_4, a0_5].map (Value.int .i64)).toArray 3 (0, 0))) ∧ Aside0 (Below w.heap.size w wr)) (fun i _ => 5 - (intOf i).toNat)
  case atStart => exact ⟨0, Nat.zero_le _, rfl, ⟨by simpa [textL] using bld_below HBu.out (below_alloc (Below.refl _ _) _)⟩, ⟨blk_alloc BK.out _⟩, BL, ⟨below_alloc HB.out _⟩⟩
  case round =>
   obtain ⟨k, hk, rfl, HBu, BK, BL, HB⟩ := hrel
   by_cases hlt : k < 5
   ·have hx : wr.cell? ⟨w1.heap.size, k, none⟩ = some (.int .i64 (rd [a0_2, a0_1, a0_3, a0_4, a0_5] (k : Int))) := lit_cell BL.out k hlt; have hn : in64 (rd [a0_2, a0_1, a0_3, a0_4, a0_5] (k : Int)) = true := lit_in64 H5.out k hlt
    have HS : Hid (textL ([a0_2, a0_1, a0_3, a0_4, a0_5].take (k + 1)) = textL ([a0_2, a0_1, a0_3, a0_4, a0_5].take k) ++ (32 :: itoaL (rd [a0_2, a0_1, a0_3, a0_4, a0_5] (k : Int)))) := by
     rw [take_snoc_getD _ 0 k (show k < [a0_2, a0_1, a0_3, a0_4, a0_5].length from hlt), textL_snoc]; rfl
    have hI : ∀ W : World, Aside0 (GL W) → Calls Tryz.prog 52 #[.int .i64 (rd [a0_2, a0_1, a0_3, a0_4, a0_5] (k : Int))] W fun e w' => e = .returned (.string ⟨(itoaL (rd [a0_2, a0_1, a0_3, a0_4, a0_5] (k : Int))).toArray⟩) ∧ Below W.heap.size W w' := fun W hW =>
     strconv_Itoa_52.calls _ _ W (by unfold strconv_Itoa_52.f; rw [if_pos (by simpa [in64] using hn)]) hW
    have HI := Lib.hid hI; have hxl := itoaL_length (rd [a0_2, a0_1, a0_3, a0_4, a0_5] (k : Int)); have htl := textL_length ([a0_2, a0_1, a0_3, a0_4, a0_5].take k)
    have htk : ([a0_2, a0_1, a0_3, a0_4, a0_5].take k).length ≤ 5 := by rw [List.length_take]; simp; omega
    clear hn hI; generalize rd [a0_2, a0_1, a0_3, a0_4, a0_5] (k : Int) = n at *; generalize hT : textL ([a0_2, a0_1, a0_3, a0_4, a0_5].take k) = T at *; clear hT; generalize itoaL n = x at *; have hsx : (⟨x.toArray⟩ : ByteArray).size = x.length := Lib.size_mk _
    go_wp2_with fail
    refine (HI.out _ (Aside0.mk (GL.below hG.out HB.out))).mono ?_
    rintro e w2 ⟨rfl, hb2⟩
    replace HBu := Aside0.mk (bld_below HBu.out hb2); replace BK := Aside0.mk (blk_below BK.out hb2); replace BL := Aside0.mk (blk_below BL.out hb2); replace HB := Aside0.mk (below_step HB.out hb2); clear hb2 hx
    have hs1 : 1 + (⟨x.toArray⟩ : ByteArray).size ≤ 9223372036854775807 := by rw [Lib.size_mk]; omega
    have hs2 := eq_true hs1; have hs3 : decide (1 + (⟨x.toArray⟩ : ByteArray).size ≤ 9223372036854775807) = true := decide_eq_true hs1; have hs4 : (9223372036854775807 < 1 + (⟨x.toArray⟩ : ByteArray).size) = False := eq_false (Nat.not_lt.2 hs1)
    go_wp2_with fail
    refine (bld_write w.heap.size (w.heap.size + 1) _ _ _ HBu.out (by rw [ByteArray.size_append, hsx, show (⟨#[32]⟩ : ByteArray).size = 1 from rfl]; simp; omega) HB.out.size).mono ?_
    rintro e w3 ⟨rfl, hbu, hb, hk⟩
    replace HBu := Aside0.mk hbu; replace BK := Aside0.mk (kept_blk BK.out hk (by simp) (by decide)); replace BL := Aside0.mk (kept_blk BL.out hk (by omega) (by decide)); replace HB := Aside0.mk (HB.out.trans hb); clear hbu hb hk hs1 hs2 hs3 hs4
    go_wp2
    go_roundw
    case rel => exact ⟨k + 1, by omega, by go_num, ⟨by rw [HS.out]; simpa using HBu.out⟩, BK, BL, HB⟩
    case measure => simp [intOf]; omega
   ·obtain rfl : k = 5 := by omega
    have c6 := bc BK.out 6 (.slice A0_6 l0_6.length c0_6) rfl; clear hlt hk
    go_wp2_with fail
    clear c6 BL
    obtain ⟨base, hbase, hbl⟩ : ∃ base, Hid (base = [] ++ ((⟨#[114, 111, 108, 108, 32]⟩ : ByteArray) ++ a0_0).data.toList ++ textL [a0_2, a0_1, a0_3, a0_4, a0_5]) ∧ base.length ≤ 1000200 := ⟨_, Lib.hid rfl, by
     have h := textL_length [a0_2, a0_1, a0_3, a0_4, a0_5]
     simp at *; omega⟩
    replace HBu : Aside0 (Bld w.heap.size (w.heap.size + 1) base wr) := Aside0.mk (by rw [hbase.out]; exact HBu.out)
    go_loopw [41] (fun i wr => ∃ k : Nat, k ≤ l0_6.length ∧ i = .int .i64 k ∧ Aside0 (Bld w.heap.size (w.heap.size + 1) (base ++ (l0_6.take k).flatMap flawL) wr) ∧ Aside0 (Below w.heap.size w wr)) (fun i _ => l0_6.length - (intOf i).toNat)
    case atStart => exact ⟨0, Nat.zero_le _, rfl, ⟨by simpa using HBu.out⟩, HB⟩
    case round =>
     obtain ⟨k, hk, rfl, HBu, HB⟩ := hrel
     by_cases hlt : k < l0_6.length
     ·have HC := Aside0.mk (Kd.C_below HR0.out HB.out); obtain ⟨ad, hA, q0, q1, q2, q3⟩ := at_T46 HC.out (k : Int) (by omega) (by omega); subst hA; simp only [Int.toNat_natCast] at q0 q1 q2 q3
      have hf : flaw64 (rd_T46 l0_6 (k : Int)) = true := by
       have e : rd_T46 l0_6 (k : Int) = l0_6[k] := by show l0_6.getD (Int.toNat (k : Int)) _ = _; rw [Int.toNat_natCast, List.getD_eq_getElem?_getD, List.getElem?_eq_getElem hlt]; rfl
       rw [e]; exact List.all_eq_true.1 HA.out _ (List.getElem_mem hlt)
      have HS : Hid ((l0_6.take (k + 1)).flatMap flawL = (l0_6.take k).flatMap flawL ++ flawL (rd_T46 l0_6 (k : Int))) := by
       have e : rd_T46 l0_6 (k : Int) = l0_6[k] := by show l0_6.getD (Int.toNat (k : Int)) _ = _; rw [Int.toNat_natCast, List.getD_eq_getElem?_getD, List.getElem?_eq_getElem hlt]; rfl
       exact Lib.hid (by rw [e, List.take_succ_eq_append_getElem hlt, List.flatMap_append]; simp)
      have hfl := flaws_length (l0_6.take k)
      have htk : (l0_6.take k).length ≤ k := by rw [List.length_take]; omega
      generalize rd_T46 l0_6 (k : Int) = f at *; generalize (l0_6.take k).flatMap flawL = T at *
      go_wp2_with fail
      clear q0 q1 q2 q3 HC; have BF := Aside0.mk (heap_alloc_new wr (.cells #[.int .i64 f.f0, .int .i64 f.f1, .int .i64 f.f2, .int .i64 f.f3] 46)); have hg2 : w.heap.size + 1 < wr.heap.size := bld_lt HBu.out; replace HBu := Aside0.mk (bld_below HBu.out (below_alloc (Below.refl _ _) (.cells #[.int .i64 f.f0, .int .i64 f.f1, .int .i64 f.f2, .int .i64 f.f3] 46))); replace HB := Aside0.mk (below_alloc HB.out (.cells #[.int .i64 f.f0, .int .i64 f.f1, .int .i64 f.f2, .int .i64 f.f3] 46)); refine (bld_write w.heap.size (w.heap.size + 1) _ _ _ HBu.out (by rw [show (⟨#[32, 102, 108, 97, 119]⟩ : ByteArray).size = 5 from rfl]; simp; omega) HB.out.size).mono ?_
      rintro e w2 ⟨rfl, hbu, hb, hk2⟩
      replace HBu := Aside0.mk hbu; replace BF := Aside0.mk (kept_blk BF.out hk2 (by omega) (by decide)); replace HB := Aside0.mk (HB.out.trans hb); clear hbu hb hk2; have d0 := bc BF.out 0 (.int .i64 f.f0) rfl; have d1 := bc BF.out 1 (.int .i64 f.f1) rfl; have d2 := bc BF.out 2 (.int .i64 f.f2) rfl; have d3 := bc BF.out 3 (.int .i64 f.f3) rfl
      go_wp2_with fail
      have BL := Aside0.mk (show (w2.alloc (.cells #[.int .i64 f.f0, .int .i64 f.f1, .int .i64 f.f2, .int .i64 f.f3] 3)).heap[w2.heap.size]? = some (.cells ([f.f0, f.f1, f.f2, f.f3].map (Value.int .i64)).toArray 3 (0, 0)) from heap_alloc_new w2 _); have hg3 : w.heap.size + 1 < w2.heap.size := bld_lt HBu.out; replace HBu := Aside0.mk (bld_below HBu.out (below_alloc (Below.refl _ _) (.cells #[.int .i64 f.f0, .int .i64 f.f1, .int .i64 f.f2, .int .i64 f.f3] 3))); replace HB := Aside0.mk (below_alloc HB.out (.cells #[.int .i64 f.f0, .int .i64 f.f1, .int .i64 f.f2, .int .i64 f.f3] 3)); have HF := Aside0.mk (show [f.f0, f.f1, f.f2, f.f3].all in64 = true from hf); clear d0 d1 d2 d3 hf BF; obtain ⟨b2, hb2, hb2l⟩ : ∃ b2, Hid (b2 = base ++ T ++ (⟨#[32, 102, 108, 97, 119]⟩ : ByteArray).data.toList) ∧ b2.length ≤ base.length + T.length + 5 := ⟨_, Lib.hid rfl, by simp; omega⟩; replace HBu : Aside0 (Bld w.heap.size (w.heap.size + 1) b2 _) := Aside0.mk (by rw [hb2.out]; exact HBu.out)
      go_loopw [56] (fun i wr => ∃ j : Nat, j ≤ 4 ∧ i = .int .i64 j ∧ Aside0 (Bld w.heap.size (w.heap.size + 1) (b2 ++ textL ([f.f0, f.f1, f.f2, f.f3].take j)) wr) ∧ Aside0 (wr.heap[w2.heap.size]? = some (.cells ([f.f0, f.f1, f.f2, f.f3].map (Value.int .i64)).toArray 3 (0, 0))) ∧ Aside0 (Below w.heap.size w wr)) (fun i _ => 4 - (intOf i).toNat)
      case atStart => exact ⟨0, Nat.zero_le _, rfl, ⟨by simpa [textL] using HBu.out⟩, BL, HB⟩
      case round =>
       obtain ⟨j, hj, rfl, HBu, BL, HB⟩ := hrel
       by_cases hlt : j < 4
       ·have hx : wr.cell? ⟨w2.heap.size, j, none⟩ = some (.int .i64 (rd [f.f0, f.f1, f.f2, f.f3] (j : Int))) := lit_cell BL.out j hlt; have hn : in64 (rd [f.f0, f.f1, f.f2, f.f3] (j : Int)) = true := lit_in64 HF.out j hlt
        have HS2 : Hid (textL ([f.f0, f.f1, f.f2, f.f3].take (j + 1)) = textL ([f.f0, f.f1, f.f2, f.f3].take j) ++ (32 :: itoaL (rd [f.f0, f.f1, f.f2, f.f3] (j : Int)))) := by
         rw [take_snoc_getD _ 0 j (show j < [f.f0, f.f1, f.f2, f.f3].length from hlt), textL_snoc]; rfl
        have hI : ∀ W : World, Aside0 (GL W) → Calls Tryz.prog 52 #[.int .i64 (rd [f.f0, f.f1, f.f2, f.f3] (j : Int))] W fun e w' => e = .returned (.string ⟨(itoaL (rd [f.f0, f.f1, f.f2, f.f3] (j : Int))).toArray⟩) ∧ Below W.heap.size W w' := fun W hW =>
         strconv_Itoa_52.calls _ _ W (by unfold strconv_Itoa_52.f; rw [if_pos (by simpa [in64] using hn)]) hW
        have HI := Lib.hid hI; have hxl := itoaL_length (rd [f.f0, f.f1, f.f2, f.f3] (j : Int)); have htl := textL_length ([f.f0, f.f1, f.f2, f.f3].take j)
        have htj : ([f.f0, f.f1, f.f2, f.f3].take j).length ≤ 4 := by rw [List.length_take]; simp; omega
        clear hn hI; generalize rd [f.f0, f.f1, f.f2, f.f3] (j : Int) = n at *; generalize hU : textL ([f.f0, f.f1, f.f2, f.f3].take j) = U at *; clear hU; generalize itoaL n = x at *; have hsx : (⟨x.toArray⟩ : ByteArray).size = x.length := Lib.size_mk _
        go_wp2_with fail
        refine (HI.out _ (Aside0.mk (GL.below hG.out HB.out))).mono ?_
        rintro e w3 ⟨rfl, hbb⟩
        replace HBu := Aside0.mk (bld_below HBu.out hbb); replace BL := Aside0.mk (blk_below BL.out hbb); replace HB := Aside0.mk (below_step HB.out hbb); clear hbb hx
        have hs1 : 1 + (⟨x.toArray⟩ : ByteArray).size ≤ 9223372036854775807 := by rw [Lib.size_mk]; omega
        have hs2 := eq_true hs1; have hs3 : decide (1 + (⟨x.toArray⟩ : ByteArray).size ≤ 9223372036854775807) = true := decide_eq_true hs1; have hs4 : (9223372036854775807 < 1 + (⟨x.toArray⟩ : ByteArray).size) = False := eq_false (Nat.not_lt.2 hs1)
        go_wp2_with fail
        refine (bld_write w.heap.size (w.heap.size + 1) _ _ _ HBu.out (by rw [ByteArray.size_append, hsx, show (⟨#[32]⟩ : ByteArray).size = 1 from rfl]; simp; omega) HB.out.size).mono ?_
        rintro e w4 ⟨rfl, hbu, hbb, hkk⟩
        replace HBu := Aside0.mk hbu; replace BL := Aside0.mk (kept_blk BL.out hkk (by omega) (by decide)); replace HB := Aside0.mk (HB.out.trans hbb); clear hbu hbb hkk hs1 hs2 hs3 hs4
        go_wp2
        go_roundw
        case rel => exact ⟨j + 1, by omega, by go_num, ⟨by rw [HS2.out]; simpa using HBu.out⟩, BL, HB⟩
        case measure => simp [intOf]; omega
       ·obtain rfl : j = 4 := by omega
        clear hlt hj BL
        go_wp2_with fail
        exact ⟨⟨_, _, _, ⟨k + 1, by omega, by go_num, ⟨by rw [HS.out, flawL]; have h := HBu.out; rw [hb2.out] at h; simpa using h⟩⟩, rfl, rfl, rfl⟩, by simp [intOf]; omega⟩
     ·obtain rfl : k = l0_6.length := by omega
      clear hlt hk
      go_wp2_with fail
      refine (bld_string w.heap.size (w.heap.size + 1) _ _ HBu.out HB.out.size).mono ?_
      rintro e w2 ⟨rfl, _, hbb, _⟩
      go_wp2
      go_ret
      exact ⟨by rw [hbase.out]; simp [rollL], HB.out.trans hbb⟩
 ·cases h

end Go.Proofs.YtdblkmnbkpphjaaGreatDoor.P
namespace Go.Proofs.YtdblkmnbkpphjaaGreatDoor.P
open Go.RowKit Go.Proofs.YtdblkmnbkpphjaaGreatDoorW.PrintWords Go.Proofs.YtdblkmnbkpphjaaGreatDoorW.PrintLast Go.Proofs.YtdblkmnbkpphjaaGreatDoorW.PrintMore Go.Proofs.YtdblkmnbkpphjaaGreatDoorW.PrintAuto
attribute [local go_sem] max2_int min2_int max_two min_two max_three min_three max_four min_four   -- for this text's walks alone
set_option linter.unusedVariables false
set_option linter.unusedSimpArgs false

--FLAGS making laid rounds
--IMPORT Derived.Test.YtdblkmnbkpphjaaGreatDoorBld
--IMPORT Derived.StillTailTactics
def rollsL (k : Nat) (l : List S26) : Nat → Nat → List UInt8 → Option (ByteArray × Int)
 | 0, _, _ => none
 | n + 1, i, acc =>
  if i < l.length then
   if acc.length ≤ 10000000000 then
    (roll_Check.f k (rd_T26 l (i : Int)).f0 (rd_T26 l (i : Int)).f1 (rd_T26 l (i : Int)).f2 (rd_T26 l (i : Int)).f3.f0 (rd_T26 l (i : Int)).f3.f1 (rd_T26 l (i : Int)).f3.f2 (rd_T26 l (i : Int)).f4).bind fun e =>
    if e = 0 then
     (roll_has.f (l.take i) (rd_T26 l (i : Int)).f0).bind fun b =>
     if b = true then some (ByteArray.empty, 7) else
     (roll_text.f (rd_T26 l (i : Int)).f0 (rd_T26 l (i : Int)).f1 (rd_T26 l (i : Int)).f2 (rd_T26 l (i : Int)).f3.f0 (rd_T26 l (i : Int)).f3.f1 (rd_T26 l (i : Int)).f3.f2 (rd_T26 l (i : Int)).f4).bind fun t =>
     if t.size ≤ 10000000000 then rollsL k l n (i + 1) (acc ++ (t ++ ⟨#[10]⟩).data.toList) else none
    else some (ByteArray.empty, e)
   else none
  else some (⟨acc.toArray⟩, 0)
def roll_Print.f (k : Nat) (l0 : List S26) : Option (ByteArray × Int) := if l0.length > 20 then some (ByteArray.empty, 5) else rollsL k l0 21 0 []
theorem rollsL_mono (k : Nat) (l : List S26) : ∀ n i acc, LeO (rollsL k l n i acc) (rollsL (k + 1) l n i acc)
 | 0, _, _ => LeO.none _
 | n + 1, i, acc => by
  unfold rollsL
  exact LeO.ite (LeO.ite (LeO.bind (roll_Check.mono _ _ _ _ _ _ _ _) fun e => LeO.ite (LeO.bind (LeO.refl _) fun b => LeO.ite (LeO.refl _) (LeO.bind (LeO.refl _) fun t => LeO.ite (rollsL_mono k l n _ _) (LeO.refl _))) (LeO.refl _)) (LeO.refl _)) (LeO.refl _)
theorem roll_Print.mono : ∀ l0 k, LeO (roll_Print.f k l0) (roll_Print.f (k + 1) l0) := by
 intro l0 k
 unfold roll_Print.f
 exact LeO.ite (LeO.refl _) (rollsL_mono k l0 _ _ _)
set_option maxHeartbeats 4000000 in
set_option maxRecDepth 100000 in
theorem roll_Print.calls0 (k : Nat) (A0 : Option Addr) (c0 : Nat) (l0 : List S26) (r : ByteArray × Int) (w : World) (hr0 : Kd.C k26 w A0 l0.length l0) (hc0 : l0.length ≤ c0) (h : roll_Print.f k l0 = some r) (hG : Aside0 (GL w)) :
  Calls Tryz.prog 15 #[.slice A0 l0.length c0] w fun e w' => e = .returned (.tuple #[.string r.1, .int .i64 r.2]) ∧ Below w.heap.size w w' := by
 have HR := Aside0.mk hr0; have hlm : l0.length ≤ 9223372036854775807 := hr0.2.1; clear hr0
 unfold roll_Print.f at h
 go_enter Tryz.func15, Tryz.ntmps15
 by_cases hlong : l0.length > 20
 ·rw [if_pos hlong] at h; obtain rfl := Option.some.inj h
  go_wp2
  go_ret2
  exact ⟨rfl, Below.refl _ _⟩
 ·rw [if_neg hlong] at h
  go_wp2_with fail
  have HBu := Aside0.mk (bld_new w w.heap.size (Nat.le_refl _)); have HB := Aside0.mk (below_alloc (Below.refl w.heap.size w) (.cells #[.pointer none, .slice none 0 0] 55))
  go_loopw [13] (fun i wr => ∃ (j : Nat) (acc : List UInt8), j ≤ l0.length ∧ i = .int .i64 j ∧ Aside0 (rollsL k l0 (21 - j) j acc = some r) ∧ Aside0 (Bld w.heap.size w.heap.size acc wr) ∧ Aside0 (Below w.heap.size w wr)) (fun i _ => l0.length - (intOf i).toNat)
  case atStart => exact ⟨0, [], Nat.zero_le _, rfl, ⟨h⟩, HBu, HB⟩
  case round =>
   obtain ⟨j, acc, hj, rfl, H, HBu, HB⟩ := hrel
   have hfu : 21 - j = (20 - j) + 1 := by omega
   replace H := H.out; rw [hfu, rollsL] at H
   by_cases hlt : j < l0.length
   ·rw [if_pos hlt] at H
    by_cases hacc : acc.length ≤ 10000000000
    ·rw [if_pos hacc] at H; obtain ⟨ad, A6, c6, hA, q0, q1, q2, q3, q4, q5, q6, he0, he1⟩ := at_T26 (Kd.C_below HR.out HB.out) (j : Int) (by omega) (by omega); subst hA; simp only [Int.toNat_natCast] at q0 q1 q2 q3 q4 q5 q6; generalize rd_T26 l0 (j : Int) = x at *; obtain ⟨e, He, H⟩ := Option.bind_eq_some_iff.mp H; replace H := Aside0.mk H; replace He := Aside0.mk He; have H0 := Aside0.mk he0; have H1 := Aside0.mk he1; clear he0 he1 h
     go_wp2_with fail
     have BF := Aside0.mk (heap_alloc_new wr (.cells #[.string x.f0, .int .i64 x.f1, .int .i64 x.f2, .int .i64 x.f3.f0, .int .i64 x.f3.f1, .int .i64 x.f3.f2, .slice A6 x.f4.length c6] 26)); have hg2 : w.heap.size < wr.heap.size := bld_lt HBu.out; replace HBu := Aside0.mk (bld_below HBu.out (below_alloc (Below.refl _ _) (.cells #[.string x.f0, .int .i64 x.f1, .int .i64 x.f2, .int .i64 x.f3.f0, .int .i64 x.f3.f1, .int .i64 x.f3.f2, .slice A6 x.f4.length c6] 26))); replace HB := Aside0.mk (below_alloc HB.out (.cells #[.string x.f0, .int .i64 x.f1, .int .i64 x.f2, .int .i64 x.f3.f0, .int .i64 x.f3.f1, .int .i64 x.f3.f2, .slice A6 x.f4.length c6] 26)); replace H1 := Aside0.mk (Kd.C_alloc H1.out (.cells #[.string x.f0, .int .i64 x.f1, .int .i64 x.f2, .int .i64 x.f3.f0, .int .i64 x.f3.f1, .int .i64 x.f3.f2, .slice A6 x.f4.length c6] 26)); clear q0 q1 q2 q3 q4 q5 q6; refine (roll_Check.calls k _ _ _ _ _ _ A6 c6 x.f4 e _ H1.out H0.out He.out).mono ?_
     rintro e_ w2 ⟨rfl, hb⟩
     replace HBu := Aside0.mk (bld_below HBu.out hb); replace BF := Aside0.mk (blk_below BF.out hb); replace HB := Aside0.mk (below_step HB.out hb); replace H1 := Aside0.mk (Kd.C_below H1.out hb); clear hb He
     by_cases hz : e = 0
     ·subst hz; replace H := H.out; rw [if_pos rfl] at H; obtain ⟨b, Hb, H⟩ := Option.bind_eq_some_iff.mp H; replace H := Aside0.mk H; replace Hb := Aside0.mk Hb; have b0 := bc BF.out 0 (.string x.f0) rfl
      have hc2 : j ≤ c0 := by omega
      have hj0 : (0 : Int) ≤ (j : Int) := by omega
      have hjc : (j : Int) ≤ (c0 : Int) := by omega
      go_wp2_with fail
      go_still_tail 5, (by kernel_rfl)
      change wpList _ _ _ _ _ w2.drew
      have HD := Aside0.mk (below_drew1 (Below.refl w2.heap.size w2)); replace HBu := Aside0.mk (bld_below HBu.out HD.out); replace BF := Aside0.mk (blk_below BF.out HD.out); replace HB := Aside0.mk (below_step HB.out HD.out); replace H1 := Aside0.mk (Kd.C_below H1.out HD.out); clear HD b0; generalize w2.drew = w3 at *
      have hti : (l0.take j).length = j := by rw [List.length_take]; omega
      have HCT := Aside0.mk (Kd.C_take (Kd.C_below HR.out HB.out) (Nat.le_of_lt hlt)); rw [hti] at HCT; have HH := roll_has.calls (some ad) c0 (l0.take j) x.f0 b w3 (by rw [hti]; exact HCT.out) (by rw [hti]; exact hc2) Hb.out; rw [hti] at HH
      go_wp2_with fail
      refine HH.mono ?_
      rintro e_ w4 ⟨rfl, hb⟩
      replace HBu := Aside0.mk (bld_below HBu.out hb); replace BF := Aside0.mk (blk_below BF.out hb); replace HB := Aside0.mk (below_step HB.out hb); replace H1 := Aside0.mk (Kd.C_below H1.out hb); clear hb HH Hb HCT
      cases b with
      | true =>
       obtain rfl := Option.some.inj H.out
       go_wp2
       go_ret2
       exact ⟨rfl, HB.out⟩
      | false =>
       replace H := H.out; rw [if_neg (by decide)] at H; obtain ⟨t, Ht, H⟩ := Option.bind_eq_some_iff.mp H
       by_cases hts : t.size ≤ 10000000000
       ·rw [if_pos hts] at H; replace H := Aside0.mk H; replace Ht := Aside0.mk Ht; have b0 := bc BF.out 0 (.string x.f0) rfl; have b1 := bc BF.out 1 (.int .i64 x.f1) rfl; have b2 := bc BF.out 2 (.int .i64 x.f2) rfl; have b3 := bc BF.out 3 (.int .i64 x.f3.f0) rfl; have b4 := bc BF.out 4 (.int .i64 x.f3.f1) rfl; have b5 := bc BF.out 5 (.int .i64 x.f3.f2) rfl; have b6 := bc BF.out 6 (.slice A6 x.f4.length c6) rfl
        go_wp2_with fail
        refine (roll_text.calls _ _ _ _ _ _ A6 c6 x.f4 t _ H1.out H0.out Ht.out (Aside0.mk (GL.below hG.out HB.out))).mono ?_
        rintro e_ w5 ⟨rfl, hb⟩
        replace HBu := Aside0.mk (bld_below HBu.out hb); replace HB := Aside0.mk (below_step HB.out hb); clear hb Ht b0 b1 b2 b3 b4 b5 b6 BF H1
        have hs1 : t.size + 1 ≤ 9223372036854775807 := by omega
        have hs2 := eq_true hs1; have hs3 : decide (t.size + 1 ≤ 9223372036854775807) = true := decide_eq_true hs1; have hs4 : (9223372036854775807 < t.size + 1) = False := eq_false (Nat.not_lt.2 hs1)
        go_wp2_with fail
        refine (bld_write w.heap.size w.heap.size _ _ _ HBu.out (by rw [ByteArray.size_append, show (⟨#[10]⟩ : ByteArray).size = 1 from rfl]; omega) HB.out.size).mono ?_
        rintro e_ w6 ⟨rfl, hbu, hb, hk⟩
        replace HBu := Aside0.mk hbu; replace HB := Aside0.mk (HB.out.trans hb); clear hbu hb hk hs1 hs2 hs3 hs4
        go_wp2
        go_roundw
        case rel => exact ⟨j + 1, _, by omega, by go_num, ⟨by rw [show 21 - (j + 1) = 20 - j by omega]; exact H.out⟩, HBu, HB⟩
        case measure => simp [intOf]; omega
       ·rw [if_neg hts] at H; cases H
     ·replace H := H.out; rw [if_neg hz] at H; obtain rfl := Option.some.inj H
      go_wp2
      go_ret2
      exact ⟨rfl, HB.out⟩
    ·rw [if_neg hacc] at H; cases H
   ·rw [if_neg hlt] at H; obtain rfl := Option.some.inj H
    obtain rfl : j = l0.length := by omega
    clear hlt hj
    go_wp2_with fail
    refine (bld_string w.heap.size w.heap.size _ _ HBu.out HB.out.size).mono ?_
    rintro e w2 ⟨rfl, _, hbb, _⟩
    go_wp2
    go_ret2
    exact ⟨rfl, HB.out.trans hbb⟩
theorem roll_Print.calls (k : Nat) (A0 : Option Addr) (c0 : Nat) (l0 : List S26) (r1 : ByteArray) (r2 : Int) (w : World) (hr0 : Kd.C k26 w A0 l0.length l0) (hc0 : l0.length ≤ c0) (h : roll_Print.f k l0 = some (r1, r2)) (hG : Aside0 (GL w)) :
 Calls Tryz.prog 15 #[.slice A0 l0.length c0] w fun e w' => e = .returned (.tuple #[.string r1, .int .i64 r2]) ∧ Below w.heap.size w w' := roll_Print.calls0 k A0 c0 l0 (r1, r2) w hr0 hc0 h hG

end Go.Proofs.YtdblkmnbkpphjaaGreatDoor.P
namespace Go.Proofs.YtdblkmnbkpphjaaGreatDoor.P
open Go.RowKit Go.Proofs.YtdblkmnbkpphjaaGreatDoorW.PrintWords Go.Proofs.YtdblkmnbkpphjaaGreatDoorW.PrintLast Go.Proofs.YtdblkmnbkpphjaaGreatDoorW.PrintMore Go.Proofs.YtdblkmnbkpphjaaGreatDoorW.PrintAuto
attribute [local go_sem] max2_int min2_int max_two min_two max_three min_three max_four min_four   -- for this text's walks alone
set_option linter.unusedVariables false
set_option linter.unusedSimpArgs false

def cmp_isNaN_int.f (a0 : Int) : Option (Bool) := some (a0 != a0)
set_option maxHeartbeats 8000000 in
set_option maxRecDepth 100000 in
theorem cmp_isNaN_int.calls (a0 : Int) (r : Bool) (w : World) (h : cmp_isNaN_int.f a0 = some r) :
  Calls Tryz.prog 56 #[.int .i64 a0] w fun e w' => e = .returned (.bool r) ∧ Drawn0 w w' := by
 have H : (some (a0 != a0)) = some r := h; clear h; obtain rfl := Option.some.inj H
 go_enter Tryz.func56, Tryz.ntmps56
 go_wp2
 go_ret
 exact ⟨by first | rfl | (simp; done) | (simp [*]; done), by repeat (first | exact Drawn0.refl _ | apply Drawn0.step)⟩

end Go.Proofs.YtdblkmnbkpphjaaGreatDoor.P
namespace Go.Proofs.YtdblkmnbkpphjaaGreatDoor.P
open Go.RowKit Go.Proofs.YtdblkmnbkpphjaaGreatDoorW.PrintWords Go.Proofs.YtdblkmnbkpphjaaGreatDoorW.PrintLast Go.Proofs.YtdblkmnbkpphjaaGreatDoorW.PrintMore Go.Proofs.YtdblkmnbkpphjaaGreatDoorW.PrintAuto
attribute [local go_sem] max2_int min2_int max_two min_two max_three min_three max_four min_four   -- for this text's walks alone
set_option linter.unusedVariables false
set_option linter.unusedSimpArgs false

def cmp_Compare_int.f (a0 : Int) (a1 : Int) : Option (Int) := (cmp_isNaN_int.f a0).bind fun t359 => ((cmp_isNaN_int.f a1).bind fun t360 => (if t359 = true then (if t360 = true then (some 0) else (some (-1))) else (if t360 = true then (some 1) else (if a0 < a1 then (some (-1)) else (if a0 > a1 then (some 1) else (some 0))))))
set_option maxHeartbeats 8000000 in
set_option maxRecDepth 100000 in
theorem cmp_Compare_int.calls (a0 : Int) (a1 : Int) (r : Int) (w : World) (h : cmp_Compare_int.f a0 a1 = some r) :
  Calls Tryz.prog 39 #[.int .i64 a0, .int .i64 a1] w fun e w' => e = .returned (.int .i64 r) ∧ Drawn0 w w' := by
 have H : ((cmp_isNaN_int.f a0).bind fun t359 => ((cmp_isNaN_int.f a1).bind fun t360 => (if t359 = true then (if t360 = true then (some 0) else (some (-1))) else (if t360 = true then (some 1) else (if a0 < a1 then (some (-1)) else (if a0 > a1 then (some 1) else (some 0))))))) = some r := h; clear h; replace H := Option.bind_eq_some_iff.mp H; obtain ⟨t359, A30, H⟩ := H; replace H : ((cmp_isNaN_int.f a1).bind fun t360 => (if t359 = true then (if t360 = true then (some 0) else (some (-1))) else (if t360 = true then (some 1) else (if a0 < a1 then (some (-1)) else (if a0 > a1 then (some 1) else (some 0)))))) = some r := H; have A3 := Aside0.mk A30; clear A30; replace H := Option.bind_eq_some_iff.mp H; obtain ⟨t360, A40, H⟩ := H; replace H : (if t359 = true then (if t360 = true then (some 0) else (some (-1))) else (if t360 = true then (some 1) else (if a0 < a1 then (some (-1)) else (if a0 > a1 then (some 1) else (some 0))))) = some r := H; have A4 := Aside0.mk A40; clear A40
 by_cases c5 : t359 = true
 ·subst c5
  have H1 : (if t360 = true then (some 0) else (some (-1))) = some r := by rw [if_pos rfl] at H; exact H
  clear H; have H := H1; clear H1
  by_cases c6 : t360 = true
  ·subst c6
   have H1 : (some 0) = some r := by rw [if_pos rfl] at H; exact H
   clear H; have H := H1; clear H1; obtain rfl := Option.some.inj H
   go_enter Tryz.func39, Tryz.ntmps39
   go_wp2_with (first | ((with_reducible refine gate_callee (f := 56) rfl ?_); refine goesA (some 8) rfl rfl Tryz.func56 (by kernel_rfl) rfl #[.int .i64 a0] rfl ?_; (with_reducible refine (cmp_isNaN_int.calls a0 true _ A3.out).mono ?_); rintro e w' ⟨rfl, ⟨nd, rfl⟩⟩; refine ⟨_, rfl, ?_⟩) | ((with_reducible refine gate_callee (f := 56) rfl ?_); refine goesA (some 10) rfl rfl Tryz.func56 (by kernel_rfl) rfl #[.int .i64 a1] rfl ?_; (with_reducible refine (cmp_isNaN_int.calls a1 true _ A4.out).mono ?_); rintro e w' ⟨rfl, ⟨nd, rfl⟩⟩; refine ⟨_, rfl, ?_⟩))
   go_ret
   exact ⟨by first | rfl | (simp; done) | (simp [*]; done), by repeat (first | exact Drawn0.refl _ | apply Drawn0.step)⟩
  ·replace c6 := Bool.eq_false_iff.mpr c6; subst c6
   have H1 : (some (-1)) = some r := by rw [if_neg (show ¬ (false = true) by decide)] at H; exact H
   clear H; have H := H1; clear H1; obtain rfl := Option.some.inj H
   go_enter Tryz.func39, Tryz.ntmps39
   go_wp2_with (first | ((with_reducible refine gate_callee (f := 56) rfl ?_); refine goesA (some 8) rfl rfl Tryz.func56 (by kernel_rfl) rfl #[.int .i64 a0] rfl ?_; (with_reducible refine (cmp_isNaN_int.calls a0 true _ A3.out).mono ?_); rintro e w' ⟨rfl, ⟨nd, rfl⟩⟩; refine ⟨_, rfl, ?_⟩) | ((with_reducible refine gate_callee (f := 56) rfl ?_); refine goesA (some 10) rfl rfl Tryz.func56 (by kernel_rfl) rfl #[.int .i64 a1] rfl ?_; (with_reducible refine (cmp_isNaN_int.calls a1 false _ A4.out).mono ?_); rintro e w' ⟨rfl, ⟨nd, rfl⟩⟩; refine ⟨_, rfl, ?_⟩))
   go_ret
   exact ⟨by first | rfl | (simp; done) | (simp [*]; done), by repeat (first | exact Drawn0.refl _ | apply Drawn0.step)⟩
 ·replace c5 := Bool.eq_false_iff.mpr c5; subst c5
  have H1 : (if t360 = true then (some 1) else (if a0 < a1 then (some (-1)) else (if a0 > a1 then (some 1) else (some 0)))) = some r := by rw [if_neg (show ¬ (false = true) by decide)] at H; exact H
  clear H; have H := H1; clear H1
  by_cases c7 : t360 = true
  ·subst c7
   have H1 : (some 1) = some r := by rw [if_pos rfl] at H; exact H
   clear H; have H := H1; clear H1; obtain rfl := Option.some.inj H
   go_enter Tryz.func39, Tryz.ntmps39
   go_wp2_with (first | ((with_reducible refine gate_callee (f := 56) rfl ?_); refine goesA (some 8) rfl rfl Tryz.func56 (by kernel_rfl) rfl #[.int .i64 a0] rfl ?_; (with_reducible refine (cmp_isNaN_int.calls a0 false _ A3.out).mono ?_); rintro e w' ⟨rfl, ⟨nd, rfl⟩⟩; refine ⟨_, rfl, ?_⟩) | ((with_reducible refine gate_callee (f := 56) rfl ?_); refine goesA (some 10) rfl rfl Tryz.func56 (by kernel_rfl) rfl #[.int .i64 a1] rfl ?_; (with_reducible refine (cmp_isNaN_int.calls a1 true _ A4.out).mono ?_); rintro e w' ⟨rfl, ⟨nd, rfl⟩⟩; refine ⟨_, rfl, ?_⟩))
   go_ret
   exact ⟨by first | rfl | (simp; done) | (simp [*]; done), by repeat (first | exact Drawn0.refl _ | apply Drawn0.step)⟩
  ·replace c7 := Bool.eq_false_iff.mpr c7; subst c7
   have H1 : (if a0 < a1 then (some (-1)) else (if a0 > a1 then (some 1) else (some 0))) = some r := by rw [if_neg (show ¬ (false = true) by decide)] at H; exact H
   clear H; have H := H1; clear H1
   by_cases c8 : a0 < a1
   ·rw [if_pos c8] at H; have c8b0 : decide (a0 < a1) = true := decide_eq_true c8; clear c8; obtain rfl := Option.some.inj H
    go_enter Tryz.func39, Tryz.ntmps39
    go_wp2_with (first | ((with_reducible refine gate_callee (f := 56) rfl ?_); refine goesA (some 8) rfl rfl Tryz.func56 (by kernel_rfl) rfl #[.int .i64 a0] rfl ?_; (with_reducible refine (cmp_isNaN_int.calls a0 false _ A3.out).mono ?_); rintro e w' ⟨rfl, ⟨nd, rfl⟩⟩; refine ⟨_, rfl, ?_⟩) | ((with_reducible refine gate_callee (f := 56) rfl ?_); refine goesA (some 10) rfl rfl Tryz.func56 (by kernel_rfl) rfl #[.int .i64 a1] rfl ?_; (with_reducible refine (cmp_isNaN_int.calls a1 false _ A4.out).mono ?_); rintro e w' ⟨rfl, ⟨nd, rfl⟩⟩; refine ⟨_, rfl, ?_⟩))
    go_ret
    exact ⟨by first | rfl | (simp; done) | (simp [*]; done), by repeat (first | exact Drawn0.refl _ | apply Drawn0.step)⟩
   ·rw [if_neg c8] at H; have c8b0 : decide (a0 < a1) = false := decide_eq_false c8; clear c8
    by_cases c9 : a0 > a1
    ·rw [if_pos c9] at H; have c9b0 : decide (a1 < a0) = true := decide_eq_true c9; clear c9; obtain rfl := Option.some.inj H
     go_enter Tryz.func39, Tryz.ntmps39
     go_wp2_with (first | ((with_reducible refine gate_callee (f := 56) rfl ?_); refine goesA (some 8) rfl rfl Tryz.func56 (by kernel_rfl) rfl #[.int .i64 a0] rfl ?_; (with_reducible refine (cmp_isNaN_int.calls a0 false _ A3.out).mono ?_); rintro e w' ⟨rfl, ⟨nd, rfl⟩⟩; refine ⟨_, rfl, ?_⟩) | ((with_reducible refine gate_callee (f := 56) rfl ?_); refine goesA (some 10) rfl rfl Tryz.func56 (by kernel_rfl) rfl #[.int .i64 a1] rfl ?_; (with_reducible refine (cmp_isNaN_int.calls a1 false _ A4.out).mono ?_); rintro e w' ⟨rfl, ⟨nd, rfl⟩⟩; refine ⟨_, rfl, ?_⟩))
     go_ret
     exact ⟨by first | rfl | (simp; done) | (simp [*]; done), by repeat (first | exact Drawn0.refl _ | apply Drawn0.step)⟩
    ·rw [if_neg c9] at H; have c9b0 : decide (a1 < a0) = false := decide_eq_false c9; clear c9; obtain rfl := Option.some.inj H
     go_enter Tryz.func39, Tryz.ntmps39
     go_wp2_with (first | ((with_reducible refine gate_callee (f := 56) rfl ?_); refine goesA (some 8) rfl rfl Tryz.func56 (by kernel_rfl) rfl #[.int .i64 a0] rfl ?_; (with_reducible refine (cmp_isNaN_int.calls a0 false _ A3.out).mono ?_); rintro e w' ⟨rfl, ⟨nd, rfl⟩⟩; refine ⟨_, rfl, ?_⟩) | ((with_reducible refine gate_callee (f := 56) rfl ?_); refine goesA (some 10) rfl rfl Tryz.func56 (by kernel_rfl) rfl #[.int .i64 a1] rfl ?_; (with_reducible refine (cmp_isNaN_int.calls a1 false _ A4.out).mono ?_); rintro e w' ⟨rfl, ⟨nd, rfl⟩⟩; refine ⟨_, rfl, ?_⟩))
     go_ret
     exact ⟨by first | rfl | (simp; done) | (simp [*]; done), by repeat (first | exact Drawn0.refl _ | apply Drawn0.step)⟩

end Go.Proofs.YtdblkmnbkpphjaaGreatDoor.P
/- slices.Clone and slices.SortFunc at rectangles: what they leave; the closure that compares. -/
namespace Go.Proofs.YtdblkmnbkpphjaaGreatDoor.P
set_option linter.unusedVariables false
open Go.Shelf Go.RowKit Go.Proofs.YtdblkmnbkpphjaaGreatDoor Go.Proofs.YtdblkmnbkpphjaaGreatDoorW.PrintWords Go.Proofs.YtdblkmnbkpphjaaGreatDoorW.PrintLast Go.Proofs.YtdblkmnbkpphjaaGreatDoorW.PrintMore

set_option maxHeartbeats 2000000 in
set_option maxRecDepth 100000 in
theorem clone_rects (A0 : Option Addr) (c0 : Nat) (l0 : List S46) (w : World) (hr0 : Kd.C k46 w A0 l0.length l0) (hc0 : l0.length ≤ c0) (hlen : l0.length ≤ 1000000) :
  Calls Tryz.prog 36 #[.slice A0 l0.length c0] w fun e w' => ∃ v1_, e = .returned v1_ ∧ Kd.R k46 46 w' w.heap.size (fun _ => True) v1_ l0 ∧ Below w.heap.size w w' := by
 have HR := Aside0.mk hr0
 have HB := Aside0.mk (Below.refl w.heap.size w)
 have qn : ∀ (w : World) (a : Option Addr) (n c n' c' : Nat), (binOp .eql 24 (.slice a n c) (.slice none n' c')).run Tryz.prog w = .ok (.bool a.isNone) w := fun w a n c n' c' => Lib.run_eql_slice_nil w _ _ a n c n' c' Tryz.underlying24
 cases A0 with
 | none =>
  have h0 : l0.length = 0 := by
   rcases Nat.eq_zero_or_pos l0.length with h | h
   ·exact h
   ·obtain ⟨ad, e, _⟩ := hr0.2.2 h; cases e
  obtain rfl := List.eq_nil_of_length_eq_zero h0
  clear hr0 h0
  go_enter Tryz.func36, Tryz.ntmps36
  go_wp2
  go_ret
  exact ⟨_, rfl, Kd.R_nil _ _ _ _ _, Below.refl _ _⟩
 | some ad =>
  clear hr0
  go_enter Tryz.func36, Tryz.ntmps36
  go_wp2_with (first
   | ((with_reducible refine gate_dst (N := 5) rfl ?_); refine Kd.R_lit k46 (w0 := w) w.heap.size 46 ?hg (N := 5) ?hd (xs := ([] : List S46)) (inner := []) (ok := fun _ => True) (okp := fun _ => True) ?hr ?hp (fun _ hk => hk) trivial (Below.refl _ _) (Nat.le_refl _) (by simp) ?_; (case hd => rfl); (case hg => rfl); (case hr => first | (go_simp; done) | (go_simp; rfl)); (case hp => exact Reps.none _ _); intro v5 w5 ho hb hg_ hnew_; clear hg_ hnew_; have HO := Aside0.mk ho; have HB1 := Aside0.mk hb; clear ho hb)
   | ((with_reducible refine gate_builtin (b := .append) (xs := #[.tmp 5, .tmp 6]) rfl ?_); at_builtin; refine Kd.R_append_rows k46 (w0 := w) w.heap.size rfl (.tmp 5) (.tmp 6) 24 46 (.agg #[(.int .i64 0), (.int .i64 0), (.int .i64 0), (.int .i64 0)]) 32 rfl Tryz.underlying24 info46 rfl (by decide) (by omega) v5 [] l0 _ _ _ (fun _ => True) (fun _ => False) rfl rfl ?aO ?aR (fun _ _ h => h) (fun _ h => h.elim) ?aF ?aB ?aS ?aL ?_; (case aR => exact Kd.C_below HR.out HB1.out); (case aB => exact HB1.out); (case aF => exact (fun _ _ => trivial)); (case aO => exact HO.out); (case aS => exact (below_size HB1.out)); (case aL => simp; omega); intro v7 w7 ho hb hg hat; have HO7 := Aside0.mk ho; have HB7 := Aside0.mk hb; clear ho hb hg hat))
  go_ret
  exact ⟨_, rfl, HO7.out, HB7.out⟩

instance : Inhabited S46 := ⟨⟨0, 0, 0, 0⟩⟩
def encR (x : S46) : List Value := [.int .i64 x.f0, .int .i64 x.f1, .int .i64 x.f2, .int .i64 x.f3]
def cmpX (x y : S46) : Int := if x.f0 < y.f0 then -1 else if x.f0 > y.f0 then 1 else 0
theorem ltX (x y : S46) : ltOf cmpX x y = decide (x.f0 < y.f0) := by
 unfold ltOf cmpX
 by_cases h1 : x.f0 < y.f0
 ·simp [h1]
 ·by_cases h2 : x.f0 > y.f0 <;> simp [h1, h2]
theorem swoX : Sort.SWO (ltOf cmpX) where
 irrefl x := by rw [ltX]; simp
 trans x y z h1 h2 := by rw [ltX] at *; simp at *; omega
 ntrans x y z h1 h2 := by rw [ltX] at *; simp at *; omega
set_option maxHeartbeats 1000000 in
set_option maxRecDepth 100000 in
theorem cmp_rects (x y : S46) (W : World) : Calls Tryz.prog 38 #[.agg #[.int .i64 x.f0, .int .i64 x.f1, .int .i64 x.f2, .int .i64 x.f3], .agg #[.int .i64 y.f0, .int .i64 y.f1, .int .i64 y.f2, .int .i64 y.f3]] W fun e w' => e = .returned (.int .i64 (cmpX x y)) ∧ ∃ q os', w' = Sort.grow (W.drewN q) os' := by
 have hf : cmp_Compare_int.f x.f0 y.f0 = some (cmpX x y) := by
  have hn : ∀ a : Int, cmp_isNaN_int.f a = some false := fun a => by unfold cmp_isNaN_int.f; simp
  unfold cmp_Compare_int.f cmpX
  rw [hn, hn]
  simp only [Option.bind_some, Bool.false_eq_true, if_false]
  split
  ·rfl
  ·split <;> rfl
 have HC := Lib.hid fun W' => cmp_Compare_int.calls x.f0 y.f0 _ W' hf
 clear hf
 generalize cmpX x y = r at HC ⊢
 go_enter Tryz.func38, Tryz.ntmps38
 go_wp2_with (go_at_call 39; refine (HC.out _).mono ?_; rintro e w' ⟨rfl, ⟨nd, rfl⟩⟩)
 go_ret
 exact ⟨rfl, nd, #[_, _], by rw [Sort.alloc_eq_grow, Sort.alloc_eq_grow, Sort.grow_grow]; rfl⟩

theorem holds_of_C {w : World} {b off : Nat} {l : List S46} (hC : Kd.C k46 w (some ⟨b, off, none⟩) l.length l) (hb : ∃ cells, w.heap[b]? = some (.cells cells 46 (0, 0))) : Sort.HoldsK encR 4 w b off l.toArray := by
 intro t ht
 rw [Sort.size_flatK] at ht
 rw [Sort.get_flatK _ _ _ _ ht]
 have ht' : t < l.length * 4 := by simpa using ht
 have hj : t / 4 < l.length := by omega
 obtain ⟨ad, e, hc⟩ := hC.2.2 (by omega)
 cases e
 obtain ⟨c, _, hK, hcc⟩ := hc (t / 4) l[t / 4] (by simp [hj])
 obtain rfl := k46_open hK
 have e1 : l.toArray[t / 4]! = l[t / 4] := by simp [hj]
 rw [e1]
 have hi : t % 4 < 4 := Nat.mod_lt _ (by decide)
 have hu : ([.int .i64 l[t / 4].f0, .int .i64 l[t / 4].f1, .int .i64 l[t / 4].f2, .int .i64 l[t / 4].f3] : List Value)[t % 4]? = some ((encR l[t / 4])[t % 4]!) := by
  generalize t % 4 = q at hi
  match q, hi with
  | 0, _ => rfl
  | 1, _ => rfl
  | 2, _ => rfl
  | 3, _ => rfl
 have h := hcc _ _ hu
 have ea : (⟨b, off, none⟩ : Addr).add (t / 4 * 4 + t % 4) = ⟨b, off + t, none⟩ := by
  have : t / 4 * 4 + t % 4 = t := by omega
  rw [this]
  unfold Addr.add
  split
  ·rename_i h0; rw [h0]; rfl
  ·rfl
 obtain ⟨cells, hb⟩ := hb
 exact ⟨by rw [← ea]; exact h, blk_frozen hb _⟩
theorem C_of_holds {w : World} {b off : Nat} {d : Array S46} (h : Sort.HoldsK encR 4 w b off d) (hm : d.size ≤ 9223372036854775807) : Kd.C k46 w (some ⟨b, off, none⟩) d.toList.length d.toList := by
 refine ⟨rfl, by simpa using hm, fun _ => ⟨_, rfl, fun j p hj => ⟨encR p, rfl, k46.K_of_M (k46_mkM w 0 (fun _ => True) p), fun i u hu => ?_⟩⟩⟩
 have hjl : j < d.size := by
  have := (List.getElem?_eq_some_iff.1 hj).1
  simpa using this
 have hil : i < 4 := (List.getElem?_eq_some_iff.1 hu).1
 have hp : d[j]! = p := by
  rw [getElem!_pos d j hjl]
  simpa using (List.getElem?_eq_some_iff.1 hj).2
 have hc := (Sort.HoldsK.cell h hjl hil).1
 rw [hp] at hc
 have hv : (encR p)[i]! = u := by simp [List.getElem!_eq_getElem?_getD, hu]
 rw [hv] at hc
 have ea : (⟨b, off, none⟩ : Addr).add (j * 4 + i) = ⟨b, off + j * 4 + i, none⟩ := by
  unfold Addr.add
  split
  ·rename_i h0
   have h1 : j = 0 := by omega
   have h2 : i = 0 := by omega
   subst h1 h2; rfl
  ·show (⟨b, off + (j * 4 + i), none⟩ : Addr) = _
   rw [Nat.add_assoc]
 show w.cell? ((⟨b, off, none⟩ : Addr).add (j * 4 + i)) = some u
 rw [ea]; exact hc
theorem sort_block {w : World} {b off m : Nat} {d : Array S46} {os : Array Obj} (hb : b < w.heap.size) : Below b w (sortWorldK encR 4 w b off m d os) := by
 refine ⟨rfl, rfl, rfl, ?_, fun k hk => ?_⟩
 ·show w.heap.size ≤ (w.heap.modify b _ ++ os).size
  simp
 ·show (w.heap.modify b _ ++ os)[k]? = w.heap[k]?
  rw [Array.getElem?_append_left (by simp; omega), Array.getElem?_modify, if_neg (by omega)]
theorem sort_typed {w : World} {b off m : Nat} {d : Array S46} {os : Array Obj} (hb : ∃ cells, w.heap[b]? = some (.cells cells 46 (0, 0))) : ∃ cells, (sortWorldK encR 4 w b off m d os).heap[b]? = some (.cells cells 46 (0, 0)) := by
 obtain ⟨cells, hb⟩ := hb
 have hlt := (Array.getElem?_eq_some_iff.1 hb).1
 refine ⟨Sort.putCells id off (Sort.flatK encR 4 d) cells, ?_⟩
 show (w.heap.modify b (Sort.onCells (Sort.putCells id off (Sort.flatK encR 4 d))) ++ os)[b]? = _
 rw [Array.getElem?_append_left (by simpa using hlt), Array.getElem?_modify, if_pos rfl, hb]
 rfl
set_option maxHeartbeats 1000000 in
theorem sort_rects (A : Option Addr) (c B : Nat) (l : List S46) (w : World) (hR : Kd.R k46 46 w B (fun _ => True) (.slice A l.length c) l) (hlen : l.length ≤ 1000000) :
  Calls Tryz.prog 37 #[.slice A l.length c, .func (.func 38) #[] #[]] w fun e w' => e = .returned (.tuple #[]) ∧ ∃ l' : List S46, l'.Perm l ∧ l'.Pairwise (fun x y => x.f0 ≤ y.f0) ∧ Below B w w' ∧ Kd.C k46 w' A l'.length l' ∧ ∀ ad, A = some ad → B ≤ ad.block ∧ ∃ cells, w'.heap[ad.block]? = some (.cells cells 46 (0, 0)) := by
 have hC := (Kd.R_reads' hR).2.2
 rcases Nat.eq_zero_or_pos l.length with h0 | h0
 ·obtain rfl := List.eq_nil_of_length_eq_zero h0
  refine (AnyF.slices_SortFunc_none (P := Tryz.prog) (ρ := Tryz.sortRect_ren) { Tryz.sortRect with } A c _ w).mono ?_
  rintro e w' ⟨rfl, rfl⟩
  refine ⟨rfl, [], .refl _, List.Pairwise.nil, Below.refl _ _, hC, fun ad e => ?_⟩
  subst e
  exact ⟨Kd.R_base hR _ rfl, Kd.R_typed hR _ rfl⟩
 ·obtain ⟨ad, e, hc⟩ := hC.2.2 h0
  subst e
  obtain ⟨x0, hx0⟩ : ∃ x0, l[0]? = some x0 := ⟨l[0], by simp [h0]⟩
  obtain ⟨cs, hcl, _, hcc⟩ := hc 0 x0 hx0
  obtain ⟨b, off, ea⟩ : ∃ b o, ad = ⟨b, o, none⟩ := by
   obtain ⟨v0, hv0⟩ : ∃ v0, cs[0]? = some v0 := ⟨cs[0]'(by rw [hcl]; decide), by simp⟩
   have := hcc 0 v0 hv0
   have e0 : ad.add (0 * k46.sz + 0) = ad := by rw [Nat.zero_mul]; rfl
   rw [e0] at this
   exact addr_plain this
  subst ea
  have hty := Kd.R_typed hR b rfl
  have hbase : B ≤ b := Kd.R_base hR b rfl
  have hblk : b < w.heap.size := by obtain ⟨cells, h⟩ := hty; exact (Array.getElem?_eq_some_iff.1 h).1
  have hH := holds_of_C hC hty
  have eg := enters_of Tryz.func38 (P := Tryz.prog) (by decide) rfl
  have hS := AnyQ.slices_SortFunc Tryz.sortRect 4 Tryz.isAgg46 Tryz.sizeOf46 encR (fun _ => rfl) (fun x v hv => by simp [encR] at hv; rcases hv with rfl | rfl | rfl | rfl <;> rfl) cmpX swoX 38 #[] b off c l.toArray w eg (fun _ _ _ _ x y => cmp_rects x y _) hH hblk (by simp; omega)
  have es : l.toArray.size = l.length := by simp
  rw [es] at hS
  refine hS.mono ?_
  rintro e w' ⟨rfl, d', n, os, hp, hs, rfl⟩
  obtain ⟨hp1, _, hp3⟩ := hp
  have hsz : d'.size = l.length := by rw [hp1, es]
  have hp4 : d'.toList.Perm l := by
   have e1 : d'.extract 0 l.length = d' := by rw [← hsz]; simp
   have e2 : l.toArray.extract 0 l.length = l.toArray := by simp
   rw [e1, e2] at hp3
   simpa using hp3
  refine ⟨rfl, d'.toList, hp4, ?_, (sort_block hblk).mono hbase, ?_, fun ad e => ?_⟩
  ·rw [List.pairwise_iff_getElem]
   intro i j hi hj hij
   have h := hs i j (Nat.zero_le _) hij (by simpa [hsz] using hj)
   rw [ltX] at h
   have hi' : i < d'.size := by simpa using hi
   have hj' : j < d'.size := by simpa using hj
   rw [getElem!_pos d' i hi', getElem!_pos d' j hj'] at h
   simp only [Array.getElem_toList]
   have := of_decide_eq_false h
   omega
  ·have hh : Sort.HoldsK encR 4 (sortWorldK encR 4 w b off n d' os) b off d' := Sort.holdsK_grow _ _ _ _ _ _ _ (by show b < (w.heap.modify b _).size; simpa using hblk) (Sort.holdsK_putRowK _ _ _ _ _ l.toArray d' (Sort.holdsK_ahead _ _ _ _ _ _ _ hH) (by simpa using hp1))
   exact C_of_holds hh (by rw [hsz]; omega)
  ·cases e
   exact ⟨hbase, sort_typed hty⟩
end Go.Proofs.YtdblkmnbkpphjaaGreatDoor.P
