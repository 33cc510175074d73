/- The functions that the law reaches: what each computes, and that its code computes it. -/
import Derived.Test.YtdblkmnbkpphjaaGreatDoorBP0
import Derived.Test.YtdblkmnbkpphjaaGreatDoorBAuto
import Derived.Test.YtdblkmnbkpphjaaGreatDoorBSortLay
import Derived.Test.YtdblkmnbkpphjaaGreatDoorBGL
import Derived.Lib.SliceRun
import Derived.Shelf.SlSortCmp.NoneTotal
import Derived.Test.YtdblkmnbkpphjaaGreatDoorBGaps
import Derived.Test.YtdblkmnbkpphjaaGreatDoorBIdxS
import Derived.Test.YtdblkmnbkpphjaaGreatDoorBBld
import Derived.StillTailTactics
namespace Go.Proofs.YtdblkmnbkpphjaaGreatDoor.P
open Go.RowKit Go.Proofs.YtdblkmnbkpphjaaGreatDoorW.PrintWords Go.Proofs.YtdblkmnbkpphjaaGreatDoorW.PrintLast Go.Proofs.YtdblkmnbkpphjaaGreatDoorW.PrintMore Go.Proofs.YtdblkmnbkpphjaaGreatDoorW.PrintAuto
attribute [local go_sem] max2_int min2_int max_two min_two max_three min_three max_four min_four   -- for this text's walks alone
set_option linter.unusedVariables false
set_option linter.unusedSimpArgs false

mutual
def garmentref27_Few.l0 : Nat → List (S26) → Int → Option (Bool)
 | 0, _, _ => none
 | k + 1, x0, x3 => if x3 < (x0.length : Int) then (garmentref27_Few.j1 k x0 x3 (decide (x3 < 30))) else (garmentref27_Few.j1 k x0 x3 false)
def garmentref27_Few.j1 : Nat → List (S26) → Int → Bool → Option (Bool)
 | 0, _, _, _ => none
 | k + 1, x0, x3, x11 => if x11 = true then (if 0 ≤ x3 then (if x3 < (x0.length : Int) then (if (((rd_T26 x0 x3).f4).length : Int) > 30 then (garmentref27_Few.j2 k x0 x3 true) else (garmentref27_Few.j2 k x0 x3 (decide ((((rd_T26 x0 x3).f0).size : Int) > 100)))) else (none)) else (none)) else (some (decide ((x0.length : Int) ≤ 30)))
def garmentref27_Few.j2 : Nat → List (S26) → Int → Bool → Option (Bool)
 | 0, _, _, _ => none
 | k + 1, x0, x3, x29 => if x29 = true then (some false) else (garmentref27_Few.l0 k x0 (wrap64 (x3 + 1)))
end
def garmentref27_Few.f (k : Nat) (l0 : List (S26)) : Option (Bool) := garmentref27_Few.l0 k l0 0
theorem garmentref27_Few.mono_l : ∀ k, (∀ y0 y1, LeO (garmentref27_Few.l0 k y0 y1) (garmentref27_Few.l0 (k + 1) y0 y1)) ∧ (∀ y0 y1 y2, LeO (garmentref27_Few.j1 k y0 y1 y2) (garmentref27_Few.j1 (k + 1) y0 y1 y2)) ∧ (∀ y0 y1 y2, LeO (garmentref27_Few.j2 k y0 y1 y2) (garmentref27_Few.j2 (k + 1) y0 y1 y2))
 | 0 => ⟨fun _ _ r h => by simp [garmentref27_Few.l0] at h, fun _ _ _ r h => by simp [garmentref27_Few.j1] at h, fun _ _ _ r h => by simp [garmentref27_Few.j2] at h⟩
 | k + 1 => by
  obtain ⟨ih0, ih1, ih2⟩ := garmentref27_Few.mono_l k
  refine ⟨?_, ?_, ?_⟩
  ·intro y0 y1
   unfold garmentref27_Few.l0
   repeat' first
   | (with_reducible exact ih0 _ _)
   | (with_reducible exact ih1 _ _ _)
   | (with_reducible exact ih2 _ _ _)
   | (with_reducible exact LeO.refl _)
   | (with_reducible exact LeO.none _)
   | (with_reducible refine LeO.ite ?_ ?_)
   | (with_reducible refine LeO.bind ?_ (fun _ => ?_))
   | exact ih0 _ _
   | exact ih1 _ _ _
   | exact ih2 _ _ _
   | exact LeO.none _
   | refine LeO.ite ?_ ?_
   | refine LeO.bind ?_ (fun _ => ?_)
  ·intro y0 y1 y2
   unfold garmentref27_Few.j1
   repeat' first
   | (with_reducible exact ih0 _ _)
   | (with_reducible exact ih1 _ _ _)
   | (with_reducible exact ih2 _ _ _)
   | (with_reducible exact LeO.refl _)
   | (with_reducible exact LeO.none _)
   | (with_reducible refine LeO.ite ?_ ?_)
   | (with_reducible refine LeO.bind ?_ (fun _ => ?_))
   | exact ih0 _ _
   | exact ih1 _ _ _
   | exact ih2 _ _ _
   | exact LeO.none _
   | refine LeO.ite ?_ ?_
   | refine LeO.bind ?_ (fun _ => ?_)
  ·intro y0 y1 y2
   unfold garmentref27_Few.j2
   repeat' first
   | (with_reducible exact ih0 _ _)
   | (with_reducible exact ih1 _ _ _)
   | (with_reducible exact ih2 _ _ _)
   | (with_reducible exact LeO.refl _)
   | (with_reducible exact LeO.none _)
   | (with_reducible refine LeO.ite ?_ ?_)
   | (with_reducible refine LeO.bind ?_ (fun _ => ?_))
   | exact ih0 _ _
   | exact ih1 _ _ _
   | exact ih2 _ _ _
   | exact LeO.none _
   | refine LeO.ite ?_ ?_
   | refine LeO.bind ?_ (fun _ => ?_)
theorem garmentref27_Few.mono : ∀ a0 k, LeO (garmentref27_Few.f k a0) (garmentref27_Few.f (k + 1) a0) := by
 intro a0 k; obtain ⟨ih0, ih1, ih2⟩ := garmentref27_Few.mono_l k
 unfold garmentref27_Few.f
 repeat' first
  | (with_reducible exact ih0 _ _)
  | (with_reducible exact ih1 _ _ _)
  | (with_reducible exact ih2 _ _ _)
  | (with_reducible exact LeO.refl _)
  | (with_reducible exact LeO.none _)
  | (with_reducible refine LeO.ite ?_ ?_)
  | (with_reducible refine LeO.bind ?_ (fun _ => ?_))
  | exact ih0 _ _
  | exact ih1 _ _ _
  | exact ih2 _ _ _
  | exact LeO.none _
  | refine LeO.ite ?_ ?_
  | refine LeO.bind ?_ (fun _ => ?_)
set_option maxHeartbeats 8000000 in
set_option maxRecDepth 100000 in
theorem garmentref27_Few.calls (k : Nat) (A0 : Option Addr) (c0 : Nat) (l0 : List (S26)) (r : Bool) (w : World) (hr0 : Kd.C k26 w A0 l0.length l0) (hc0 : l0.length ≤ c0) (h : garmentref27_Few.f k l0 = some r) :
  Calls Tryz.prog 14 #[.slice A0 l0.length c0] w fun e w' => e = .returned (.bool r) ∧ Drawn0 w w' := by
 have HR0 := Aside0.mk hr0; have HC0 := Aside0.mk hc0; clear hr0 hc0; have H : (garmentref27_Few.l0 k l0 0) = some r := h; clear h; have H' := Aside0.mk H; clear H
 go_enter Tryz.func14, Tryz.ntmps14
 go_wp2
 go_loopg [3] k (fun kq v3 w' => ∃ (x3_1 : Int), v3 = .int .i64 x3_1 ∧ Aside0 (garmentref27_Few.l0 kq l0 x3_1 = some r) ∧ Aside0 (kq ≤ k) ∧ Drawn0 w w')
 case atStart => exact ⟨(0), (by first | rfl | (simp; done) | (simp [*]; done)), H', ⟨Nat.le_refl _⟩, by repeat (first | exact Drawn0.refl _ | apply Drawn0.step)⟩
 case round =>
  clear H'
  try clear c1
  obtain ⟨x3_1, rfl, HA, HK1, ⟨m1, rfl⟩⟩ := hrel
  cases gk with
  | zero => exact absurd HA.out (by simp [garmentref27_Few.l0])
  | succ k1 =>
   have H := HA.out; clear HA; simp only [garmentref27_Few.l0] at H; have HC2 := Aside0.mk H; clear H
   go_upto_region 2 with (fail)
   go_cut [11] (fun v11 wc => ∃ (kq : Nat) (x11_1 : Bool), v11 = .bool x11_1 ∧ Aside0 (garmentref27_Few.j1 kq l0 x3_1 x11_1 = some r) ∧ Aside0 (kq ≤ k1) ∧ Drawn0 w wc)
   case first =>
    have H := HC2.out; clear HC2
    by_cases c3 : x3_1 < (l0.length : Int)
    ·rw [if_pos c3] at H; have c3b0 : decide (x3_1 < (l0.length : Int)) = true := decide_eq_true c3; clear c3
     (first | rw [c3b0] | (simp only [i64_w, i32_w]; rw [c3b0]) | skip)
     have H' := Aside0.mk H; clear H
     go_wp2
     go_meet
     case rel => exact ⟨_, (decide (x3_1 < 30)), (by first | rfl | (simp; done) | (simp [*]; done)), H', ⟨by have := HK1.out; first | omega | exact Nat.le_refl _⟩, by repeat (first | exact Drawn0.refl _ | apply Drawn0.step)⟩
    ·rw [if_neg c3] at H; have c3b0 : decide (x3_1 < (l0.length : Int)) = false := decide_eq_false c3; clear c3
     (first | rw [c3b0] | (simp only [i64_w, i32_w]; rw [c3b0]) | skip)
     have H' := Aside0.mk H; clear H
     go_wp2
     go_meet
     case rel => exact ⟨_, (false), (by first | rfl | (simp; done) | (simp [*]; done)), H', ⟨by have := HK1.out; first | omega | exact Nat.le_refl _⟩, by repeat (first | exact Drawn0.refl _ | apply Drawn0.step)⟩
   case rest =>
    clear HC2
    try clear c1
    try clear p2
    try clear c3
    try clear c3b0
    obtain ⟨kq, x11_1, rfl, HA, HJ1, ⟨mc1, rfl⟩⟩ := hcut
    cases kq with
    | zero => exact absurd HA.out (by simp [garmentref27_Few.j1])
    | succ kj1 =>
     have H := HA.out; clear HA; simp only [garmentref27_Few.j1] at H
     by_cases c4 : x11_1 = true
     ·subst c4
      have H1 : (if 0 ≤ x3_1 then (if x3_1 < (l0.length : Int) then (if (((rd_T26 l0 x3_1).f4).length : Int) > 30 then (garmentref27_Few.j2 kj1 l0 x3_1 true) else (garmentref27_Few.j2 kj1 l0 x3_1 (decide ((((rd_T26 l0 x3_1).f0).size : Int) > 100)))) else (none)) else (none)) = some r := by rw [if_pos rfl] at H; exact H
      clear H; have H := H1; clear H1; have HC5 := Aside0.mk H; clear H
      go_upto_region 4 with (fail)
      go_cut [29] (fun v29 wc => ∃ (kq : Nat) (x29_4 : Bool), v29 = .bool x29_4 ∧ Aside0 (garmentref27_Few.j2 kq l0 x3_1 x29_4 = some r) ∧ Aside0 (kq ≤ kj1) ∧ Drawn0 w wc)
      case first =>
       have H := HC5.out; clear HC5
       by_cases c6 : 0 ≤ x3_1
       ·rw [if_pos c6] at H; have c6b0 : decide (0 ≤ x3_1) = true := decide_eq_true c6; clear c6
        (first | rw [c6b0] | (simp only [i64_w, i32_w]; rw [c6b0]) | skip)
        by_cases c7 : x3_1 < (l0.length : Int)
        ·rw [if_pos c7] at H; have c7b0 : decide (x3_1 < (l0.length : Int)) = true := decide_eq_true c7; clear c7
         by_cases c8 : (((rd_T26 l0 x3_1).f4).length : Int) > 30
         ·rw [if_pos c8] at H; have c8b0 : decide (30 < (((rd_T26 l0 x3_1).f4).length : Int)) = true := decide_eq_true c8; have c8b1 : decide (30 < ((rd_T26 l0 x3_1).f4).length) = true := decide_eq_true (by omega); clear c8; have H' := Aside0.mk H; clear H; have p101 : 0 ≤ (x3_1 : Int) := oda; have q101 : x3_1 < (l0.length : Int) := oda; obtain ⟨ad101, A101_6, c101_6, e101, hx101_0, hx101_1, hx101_2, hx101_3, hx101_4, hx101_5, hx101_6, hl101_6, hi101_6⟩ := at_T26 HR0.out x3_1 p101 q101; cases e101; have HR101_6 := Aside0.mk hi101_6; have HC101_6 := Aside0.mk hl101_6; clear hi101_6 hl101_6; replace p101 := eq_true p101; replace q101 := eq_true q101
          go_wp2
          go_meet
          case rel => exact ⟨_, (true), (by first | rfl | (simp; done) | (simp [*]; done)), H', ⟨by have := HK1.out; have := HJ1.out; first | omega | exact Nat.le_refl _⟩, by repeat (first | exact Drawn0.refl _ | apply Drawn0.step)⟩
         ·rw [if_neg c8] at H; have c8b0 : decide (30 < (((rd_T26 l0 x3_1).f4).length : Int)) = false := decide_eq_false c8; have c8b1 : decide (30 < ((rd_T26 l0 x3_1).f4).length) = false := decide_eq_false (by omega); clear c8; have H' := Aside0.mk H; clear H; have p101 : 0 ≤ (x3_1 : Int) := oda; have q101 : x3_1 < (l0.length : Int) := oda; obtain ⟨ad101, A101_6, c101_6, e101, hx101_0, hx101_1, hx101_2, hx101_3, hx101_4, hx101_5, hx101_6, hl101_6, hi101_6⟩ := at_T26 HR0.out x3_1 p101 q101; cases e101; have HR101_6 := Aside0.mk hi101_6; have HC101_6 := Aside0.mk hl101_6; clear hi101_6 hl101_6; replace p101 := eq_true p101; replace q101 := eq_true q101; have p102 : 0 ≤ (x3_1 : Int) := oda; have q102 : x3_1 < (l0.length : Int) := oda; obtain ⟨ad102, A102_6, c102_6, e102, hx102_0, hx102_1, hx102_2, hx102_3, hx102_4, hx102_5, hx102_6, hl102_6, hi102_6⟩ := at_T26 HR0.out x3_1 p102 q102; obtain rfl : ad101 = ad102 := (by injection e102); have HR102_6 := Aside0.mk hi102_6; have HC102_6 := Aside0.mk hl102_6; clear hi102_6 hl102_6; replace p102 := eq_true p102; replace q102 := eq_true q102; have ea_ := Option.some.inj (hx101_6.symm.trans hx102_6)
          injection ea_ with ea_ en_ ec_
          subst ea_; subst ec_; clear en_
          go_wp2
          go_meet
          case rel => exact ⟨_, (decide ((((rd_T26 l0 x3_1).f0).size : Int) > 100)), (by first | rfl | (simp; done) | (simp [*]; done)), H', ⟨by have := HK1.out; have := HJ1.out; first | omega | exact Nat.le_refl _⟩, by repeat (first | exact Drawn0.refl _ | apply Drawn0.step)⟩
        ·rw [if_neg c7] at H; exact absurd H (by simp)
       ·rw [if_neg c6] at H; exact absurd H (by simp)
      case rest =>
       clear HC5
       try clear c1
       try clear p1
       try clear q1
       try clear hx1
       try clear p2
       try clear c3
       try clear c3b0
       try clear c4
       try clear c6
       try clear c6b0
       try clear c7
       try clear c7b0
       try clear c8
       try clear c8b0
       try clear c8b1
       try clear hx101_0
       try clear hx101_1
       try clear hx101_2
       try clear hx101_3
       try clear hx101_4
       try clear hx101_5
       try clear hx101_6
       try clear hx102_0
       try clear hx102_1
       try clear hx102_2
       try clear hx102_3
       try clear hx102_4
       try clear hx102_5
       try clear hx102_6
       try clear p101
       try clear p102
       try clear p2
       try clear q101
       try clear q102
       obtain ⟨kq, x29_4, rfl, HA, HJ4, ⟨mc4, rfl⟩⟩ := hcut
       cases kq with
       | zero => exact absurd HA.out (by simp [garmentref27_Few.j2])
       | succ kj4 =>
        have H := HA.out; clear HA; simp only [garmentref27_Few.j2] at H
        by_cases c9 : x29_4 = true
        ·subst c9
         have H1 : (some false) = some r := by rw [if_pos rfl] at H; exact H
         clear H; have H := H1; clear H1; obtain rfl := Option.some.inj H
         go_wp2
         go_ret
         exact ⟨by first | rfl | (simp; done) | (simp [*]; done), by repeat (first | exact Drawn0.refl _ | apply Drawn0.step)⟩
        ·replace c9 := Bool.eq_false_iff.mpr c9; subst c9
         have H1 : (garmentref27_Few.l0 kj4 l0 (wrap64 (x3_1 + 1))) = some r := by rw [if_neg (show ¬ (false = true) by decide)] at H; exact H
         clear H; have H := H1; clear H1; have H' := Aside0.mk H; clear H
         go_wp2
         go_roundg kj4
         case measure => have := HK1.out; have := HJ1.out; have := HJ4.out; omega
         case rel => exact ⟨(wrap64 (x3_1 + 1)), (by first | rfl | (simp; done) | (simp [*]; done)), H', ⟨by have := HK1.out; have := HJ1.out; have := HJ4.out; omega⟩, by repeat (first | exact Drawn0.refl _ | apply Drawn0.step)⟩
     ·replace c4 := Bool.eq_false_iff.mpr c4; subst c4
      have H1 : (some (decide ((l0.length : Int) ≤ 30))) = some r := by rw [if_neg (show ¬ (false = true) by decide)] at H; exact H
      clear H; have H := H1; clear H1; obtain rfl := Option.some.inj H
      go_wp2
      go_ret
      exact ⟨by first | rfl | (simp; done) | (simp [*]; done), by repeat (first | exact Drawn0.refl _ | apply Drawn0.step)⟩

end Go.Proofs.YtdblkmnbkpphjaaGreatDoor.P
namespace Go.Proofs.YtdblkmnbkpphjaaGreatDoor.P
open Go.RowKit Go.Proofs.YtdblkmnbkpphjaaGreatDoorW.PrintWords Go.Proofs.YtdblkmnbkpphjaaGreatDoorW.PrintLast Go.Proofs.YtdblkmnbkpphjaaGreatDoorW.PrintMore Go.Proofs.YtdblkmnbkpphjaaGreatDoorW.PrintAuto
attribute [local go_sem] max2_int min2_int max_two min_two max_three min_three max_four min_four   -- for this text's walks alone
set_option linter.unusedVariables false
set_option linter.unusedSimpArgs false

def garmentlaw27_few.f (k : Nat) (a0_0 : ByteArray) (a0_1 : Int) (a0_2 : Int) (a0_3 : Int) (a0_4 : Int) (a0_5 : Int) (l0_6 : List (S46)) : Option (Bool) := (garmentref27_Few.f k (([(⟨a0_0, a0_1, a0_2, (⟨a0_3, a0_4, a0_5⟩ : S23), l0_6⟩ : S26)] : List (S26)))).bind fun t107 => (some t107)
theorem garmentlaw27_few.mono : ∀ a0 a1 a2 a3 a4 a5 a6 k, LeO (garmentlaw27_few.f k a0 a1 a2 a3 a4 a5 a6) (garmentlaw27_few.f (k + 1) a0 a1 a2 a3 a4 a5 a6) := by
 intro a0 a1 a2 a3 a4 a5 a6 k
 unfold garmentlaw27_few.f
 repeat' first
  | (with_reducible exact garmentref27_Few.mono _ _)
  | (with_reducible exact LeO.refl _)
  | (with_reducible exact LeO.none _)
  | (with_reducible refine LeO.ite ?_ ?_)
  | (with_reducible refine LeO.bind ?_ (fun _ => ?_))
  | exact garmentref27_Few.mono _ _
  | exact LeO.none _
  | refine LeO.ite ?_ ?_
  | refine LeO.bind ?_ (fun _ => ?_)
set_option maxHeartbeats 8000000 in
set_option maxRecDepth 100000 in
theorem garmentlaw27_few.calls (k : Nat) (a0_0 : ByteArray) (a0_1 : Int) (a0_2 : Int) (a0_3 : Int) (a0_4 : Int) (a0_5 : Int) (P0_6_ : Nat → Prop) (A0_6 : Option Addr) (c0_6 : Nat) (l0_6 : List (S46)) (r : Bool) (w : World) (hs0_6 : Kd.V k46 46 w w.heap.size (fun k_ => P0_6_ k_) (.slice A0_6 l0_6.length c0_6) l0_6) (h : garmentlaw27_few.f k a0_0 a0_1 a0_2 a0_3 a0_4 a0_5 l0_6 = some r) :
  Calls Tryz.prog 10 #[.agg #[.string a0_0, .int .i64 a0_1, .int .i64 a0_2, .int .i64 a0_3, .int .i64 a0_4, .int .i64 a0_5, .slice A0_6 l0_6.length c0_6]] w fun e w' => e = .returned (.bool r) ∧ Below w.heap.size w w' := by
 have hu26 := Tryz.underlying26; have HO0_6 := Aside0.mk (show Kd.V k46 46 w w.heap.size (fun k_ => (P0_6_ k_ ∨ w.heap.size ≤ k_)) (.slice A0_6 l0_6.length c0_6) l0_6 from Kd.V_mono hs0_6 (fun k_ hk => .inl hk)); have HB := Aside0.mk (Below.refl w.heap.size w); have H : ((garmentref27_Few.f k (([(⟨a0_0, a0_1, a0_2, (⟨a0_3, a0_4, a0_5⟩ : S23), l0_6⟩ : S26)] : List (S26)))).bind fun t107 => (some t107)) = some r := h; clear h; obtain ⟨y104, hy104⟩ : ∃ y_ : List (S26), y_ = (([(⟨a0_0, a0_1, a0_2, (⟨a0_3, a0_4, a0_5⟩ : S23), l0_6⟩ : S26)] : List (S26))) := ⟨_, rfl⟩
 replace H : ((garmentref27_Few.f k y104).bind fun t107 => (some t107)) = some r := by first | (rw [hy104]; with_reducible exact H) | (have H2_ := (Option.bind_some _ _).symm.trans H; rw [hy104]; with_reducible exact H2_) | (have H2_ := (Option.bind_some _ _).symm.trans H; with_reducible exact H2_) | with_reducible exact H | (rw [hy104]; exact H) | exact H
 have Ny104 := Aside0.mk hy104; clear hy104; replace H := Option.bind_eq_some_iff.mp H; obtain ⟨t107, A20, H⟩ := H; replace H : (some t107) = some r := H; have A2 := Aside0.mk A20; clear A20; obtain rfl := Option.some.inj H
 go_enter Tryz.func10, Tryz.ntmps10
 go_wp2_with (first | ((with_reducible refine gate_dst (N := 1) rfl ?_); refine box_event ?hg (N := 1) ?hd (cs := #[.string a0_0, .int .i64 a0_1, .int .i64 a0_2, .int .i64 a0_3, .int .i64 a0_4, .int .i64 a0_5, .slice A0_6 l0_6.length c0_6]) (t := 26) ?hr ?_; (case hd => rfl); (case hg => rfl); (case hr => first | (go_simp; done) | (go_simp; rfl)); intro gb103 hg w3 hbox hb; have BK103 := Aside0.mk (hbox); have GW103 := Aside0.mk ((by rw [hg]; exact (below_size (be HB.out)) : w.heap.size ≤ gb103)); have GE103 := Aside0.mk ((by rw [hg]; exact (below_size (be HB.out)) : w.heap.size ≤ gb103)); replace HO0_6 := Aside0.mk (Kd.V_below (Kd.V_elderB (by (with_reducible repeat (first | apply Kd.V_alloc | apply Kd.V_drewN | apply Kd.V_drew)); exact HO0_6.out) gb103 (Nat.le_of_eq hg.symm)) hb); replace HB := Aside0.mk (below_step (be HB.out) hb); clear hb hbox hg; have hcz4_0 := bc BK103.out 0 (.string a0_0) rfl; have hcz4_1 := bc BK103.out 1 (.int .i64 a0_1) rfl; have hcz4_2 := bc BK103.out 2 (.int .i64 a0_2) rfl; have hcz4_3 := bc BK103.out 3 (.int .i64 a0_3) rfl; have hcz4_4 := bc BK103.out 4 (.int .i64 a0_4) rfl; have hcz4_5 := bc BK103.out 5 (.int .i64 a0_5) rfl; have hcz4_6 := bc BK103.out 6 (.slice A0_6 l0_6.length c0_6) rfl; have hfz4_0 := blk_frozen BK103.out 0; have hfz4_1 := blk_frozen BK103.out 1; have hfz4_2 := blk_frozen BK103.out 2; have hfz4_3 := blk_frozen BK103.out 3; have hfz4_4 := blk_frozen BK103.out 4; have hfz4_5 := blk_frozen BK103.out 5; have hfz4_6 := blk_frozen BK103.out 6) | ((with_reducible refine gate_dst (N := 4) rfl ?_); refine Kd.N_lit k26 _ 26 ?hg (N' := 4) ?hd (xs := ([(⟨a0_0, a0_1, a0_2, (⟨a0_3, a0_4, a0_5⟩ : S23), l0_6⟩ : S26)] : List (S26))) (inner := [.string a0_0, .int .i64 a0_1, .int .i64 a0_2, .int .i64 a0_3, .int .i64 a0_4, .int .i64 a0_5, .slice A0_6 l0_6.length c0_6]) (ok := (fun k_ => (P0_6_ k_ ∨ w.heap.size ≤ k_) ∧ k_ ≠ gb103)) (okp := (fun k_ => (P0_6_ k_ ∨ w.heap.size ≤ k_) ∧ k_ ≠ gb103)) ?hr ?hp (fun _ hk => hk) ((show ∀ k_, w3.heap.size ≤ k_ → (fun k_ => (P0_6_ k_ ∨ w.heap.size ≤ k_) ∧ k_ ≠ gb103) k_ from fun k_ hk => ⟨(.inr (Nat.le_trans (below_size (be HB.out)) hk)), Kd.freshB (g := gb103) (o := .cells #[.string a0_0, .int .i64 a0_1, .int .i64 a0_2, .int .i64 a0_3, .int .i64 a0_4, .int .i64 a0_5, .slice A0_6 l0_6.length c0_6] 26 (0, 0)) (bu BK103.out) k_ hk⟩) _ (Nat.le_refl _)) (Below.refl _ _) (Nat.le_refl _) (by simp) ?_; (case hd => rfl); (case hg => rfl); (case hr => first | (go_simp; done) | (go_simp; rfl)); (case hp => exact (Reps.c7 (show Kd.FK k26 _ _ (⟨a0_0, a0_1, a0_2, (⟨a0_3, a0_4, a0_5⟩ : S23), l0_6⟩ : S26) [.string a0_0, .int .i64 a0_1, .int .i64 a0_2, .int .i64 a0_3, .int .i64 a0_4, .int .i64 a0_5, .slice A0_6 l0_6.length c0_6] from (k26_mkF _ _ (⟨a0_0, a0_1, a0_2, (⟨a0_3, a0_4, a0_5⟩ : S23), l0_6⟩ : S26) (Kd.V_reads' (Kd.V_mono (ok' := (fun k_ => (P0_6_ k_ ∨ w.heap.size ≤ k_) ∧ k_ ≠ gb103)) (HO0_6.out) (fun k_ hk => ⟨hk.1, hk.2⟩))).2.1 (Kd.V_F (Kd.V_mono (ok' := (fun k_ => (P0_6_ k_ ∨ w.heap.size ≤ k_) ∧ k_ ≠ gb103)) (HO0_6.out) (fun k_ hk => ⟨hk.1, hk.2⟩))))) (Reps.none _ _))); intro v105 w5 ho6 hb hg_ hnew_; clear hg_ hnew_; (first | rw [← Ny104.out] at ho6 | (simp only [Int.reduceToNat] at ho6; rw [← Ny104.out] at ho6)); have HO106 := Aside0.mk (Kd.N_lower ho6 (below_size (be HB.out))); replace HO0_6 := Aside0.mk (Kd.V_elder' (by (with_reducible repeat (first | apply Kd.V_alloc | apply Kd.V_drewN | apply Kd.V_drew)); exact HO0_6.out) (Kd.N_base ho6) hb); replace BK103 := Aside0.mk (blk_below (bu BK103.out) hb); replace HB := Aside0.mk (below_step (be HB.out) hb); clear hb ho6; obtain ⟨Ao7, co7, eo7⟩ := Kd.N_slice HO106.out; subst eo7) | ((with_reducible refine gate_callee (f := 14) rfl ?_); refine goesA (some 5) rfl rfl Tryz.func14 (by kernel_rfl) rfl #[.slice Ao7 y104.length co7] rfl ?_; (with_reducible refine (garmentref27_Few.calls k _ _ y104 t107 _ ?side1 ?side2 A2.out).mono ?_); (case side1 => exact cu (Kd.N_reads' HO106.out).2.2); (case side2 => exact (Kd.N_reads' HO106.out).2.1); rintro e w' ⟨rfl, ⟨nd, rfl⟩⟩; refine ⟨_, rfl, ?_⟩))
 go_ret
 exact ⟨by first | rfl | (simp [errW_none, errW_some] <;> rfl) | (simp [*, errW_none, errW_some] <;> rfl), be HB.out⟩

end Go.Proofs.YtdblkmnbkpphjaaGreatDoor.P
namespace Go.Proofs.YtdblkmnbkpphjaaGreatDoor.P
open Go.RowKit Go.Proofs.YtdblkmnbkpphjaaGreatDoorW.PrintWords Go.Proofs.YtdblkmnbkpphjaaGreatDoorW.PrintLast Go.Proofs.YtdblkmnbkpphjaaGreatDoorW.PrintMore Go.Proofs.YtdblkmnbkpphjaaGreatDoorW.PrintAuto
attribute [local go_sem] max2_int min2_int max_two min_two max_three min_three max_four min_four   -- for this text's walks alone
set_option linter.unusedVariables false
set_option linter.unusedSimpArgs false

def roll_letter.f (a0 : Int) : Option (Bool) := if a0 ≥ 65 then (if a0 ≤ 90 then (some true) else (if a0 ≥ 97 then (some (decide (a0 ≤ 122))) else (some false))) else (if a0 ≥ 97 then (some (decide (a0 ≤ 122))) else (some false))
set_option maxHeartbeats 8000000 in
set_option maxRecDepth 100000 in
theorem roll_letter.calls (a0 : Int) (r : Bool) (w : World) (h : roll_letter.f a0 = some r) :
  Calls Tryz.prog 45 #[.int .u8 a0] w fun e w' => e = .returned (.bool r) ∧ Drawn0 w w' := by
 have H : (if a0 ≥ 65 then (if a0 ≤ 90 then (some true) else (if a0 ≥ 97 then (some (decide (a0 ≤ 122))) else (some false))) else (if a0 ≥ 97 then (some (decide (a0 ≤ 122))) else (some false))) = some r := h; clear h
 by_cases c2 : a0 ≥ 65
 ·rw [if_pos c2] at H; have c2b0 : decide (65 ≤ a0) = true := decide_eq_true c2; clear c2
  by_cases c3 : a0 ≤ 90
  ·rw [if_pos c3] at H; have c3b0 : decide (a0 ≤ 90) = true := decide_eq_true c3; clear c3; obtain rfl := Option.some.inj H
   go_enter Tryz.func45, Tryz.ntmps45
   go_wp2
   go_ret
   exact ⟨by first | rfl | (simp; done) | (simp [*]; done), by repeat (first | exact Drawn0.refl _ | apply Drawn0.step)⟩
  ·rw [if_neg c3] at H; have c3b0 : decide (a0 ≤ 90) = false := decide_eq_false c3; clear c3
   by_cases c4 : a0 ≥ 97
   ·rw [if_pos c4] at H; have c4b0 : decide (97 ≤ a0) = true := decide_eq_true c4; clear c4; obtain rfl := Option.some.inj H
    go_enter Tryz.func45, Tryz.ntmps45
    go_wp2
    go_ret
    exact ⟨by first | rfl | (simp; done) | (simp [*]; done), by repeat (first | exact Drawn0.refl _ | apply Drawn0.step)⟩
   ·rw [if_neg c4] at H; have c4b0 : decide (97 ≤ a0) = false := decide_eq_false c4; clear c4; obtain rfl := Option.some.inj H
    go_enter Tryz.func45, Tryz.ntmps45
    go_wp2
    go_ret
    exact ⟨by first | rfl | (simp; done) | (simp [*]; done), by repeat (first | exact Drawn0.refl _ | apply Drawn0.step)⟩
 ·rw [if_neg c2] at H; have c2b0 : decide (65 ≤ a0) = false := decide_eq_false c2; clear c2
  by_cases c5 : a0 ≥ 97
  ·rw [if_pos c5] at H; have c5b0 : decide (97 ≤ a0) = true := decide_eq_true c5; clear c5; obtain rfl := Option.some.inj H
   go_enter Tryz.func45, Tryz.ntmps45
   go_wp2
   go_ret
   exact ⟨by first | rfl | (simp; done) | (simp [*]; done), by repeat (first | exact Drawn0.refl _ | apply Drawn0.step)⟩
  ·rw [if_neg c5] at H; have c5b0 : decide (97 ≤ a0) = false := decide_eq_false c5; clear c5; obtain rfl := Option.some.inj H
   go_enter Tryz.func45, Tryz.ntmps45
   go_wp2
   go_ret
   exact ⟨by first | rfl | (simp; done) | (simp [*]; done), by repeat (first | exact Drawn0.refl _ | apply Drawn0.step)⟩

end Go.Proofs.YtdblkmnbkpphjaaGreatDoor.P
namespace Go.Proofs.YtdblkmnbkpphjaaGreatDoor.P
open Go.RowKit Go.Proofs.YtdblkmnbkpphjaaGreatDoorW.PrintWords Go.Proofs.YtdblkmnbkpphjaaGreatDoorW.PrintLast Go.Proofs.YtdblkmnbkpphjaaGreatDoorW.PrintMore Go.Proofs.YtdblkmnbkpphjaaGreatDoorW.PrintAuto
attribute [local go_sem] max2_int min2_int max_two min_two max_three min_three max_four min_four   -- for this text's walks alone
set_option linter.unusedVariables false
set_option linter.unusedSimpArgs false

def roll_digit.f (a0 : Int) : Option (Bool) := if a0 ≥ 48 then (some (decide (a0 ≤ 57))) else (some false)
set_option maxHeartbeats 8000000 in
set_option maxRecDepth 100000 in
theorem roll_digit.calls (a0 : Int) (r : Bool) (w : World) (h : roll_digit.f a0 = some r) :
  Calls Tryz.prog 46 #[.int .u8 a0] w fun e w' => e = .returned (.bool r) ∧ Drawn0 w w' := by
 have H : (if a0 ≥ 48 then (some (decide (a0 ≤ 57))) else (some false)) = some r := h; clear h
 by_cases c2 : a0 ≥ 48
 ·rw [if_pos c2] at H; have c2b0 : decide (48 ≤ a0) = true := decide_eq_true c2; clear c2; obtain rfl := Option.some.inj H
  go_enter Tryz.func46, Tryz.ntmps46
  go_wp2
  go_ret
  exact ⟨by first | rfl | (simp; done) | (simp [*]; done), by repeat (first | exact Drawn0.refl _ | apply Drawn0.step)⟩
 ·rw [if_neg c2] at H; have c2b0 : decide (48 ≤ a0) = false := decide_eq_false c2; clear c2; obtain rfl := Option.some.inj H
  go_enter Tryz.func46, Tryz.ntmps46
  go_wp2
  go_ret
  exact ⟨by first | rfl | (simp; done) | (simp [*]; done), by repeat (first | exact Drawn0.refl _ | apply Drawn0.step)⟩

end Go.Proofs.YtdblkmnbkpphjaaGreatDoor.P
namespace Go.Proofs.YtdblkmnbkpphjaaGreatDoor.P
open Go.RowKit Go.Proofs.YtdblkmnbkpphjaaGreatDoorW.PrintWords Go.Proofs.YtdblkmnbkpphjaaGreatDoorW.PrintLast Go.Proofs.YtdblkmnbkpphjaaGreatDoorW.PrintMore Go.Proofs.YtdblkmnbkpphjaaGreatDoorW.PrintAuto
attribute [local go_sem] max2_int min2_int max_two min_two max_three min_three max_four min_four   -- for this text's walks alone
set_option linter.unusedVariables false
set_option linter.unusedSimpArgs false

mutual
def roll_named.j0 : Nat → ByteArray → Bool → Option (Bool)
 | 0, _, _ => none
 | k + 1, x0, x20 => if x20 = true then (some false) else (roll_named.l0 k x0 (x0.size : Int) 0)
def roll_named.l0 : Nat → ByteArray → Int → Int → Option (Bool)
 | 0, _, _, _ => none
 | k + 1, x0, x22, x23 => if x23 < x22 then (if 0 ≤ x23 then (if x23 < (x0.size : Int) then ((roll_letter.f (bt x0 x23)).bind fun t108 => (if t108 = true then (roll_named.j2 k x0 x22 x23 false) else ((roll_digit.f (bt x0 x23)).bind fun t109 => (roll_named.j2 k x0 x22 x23 (!t109))))) else (none)) else (none)) else (some true)
def roll_named.j2 : Nat → ByteArray → Int → Int → Bool → Option (Bool)
 | 0, _, _, _, _ => none
 | k + 1, x0, x22, x23, x37 => if x37 = true then (some false) else (roll_named.l0 k x0 x22 (wrap64 (x23 + 1)))
end
def roll_named.f (k : Nat) (a0 : ByteArray) : Option (Bool) := if a0.toList = ([] : List UInt8) then (roll_named.j0 k a0 true) else (if (a0.size : Int) > 8 then (roll_named.j0 k a0 true) else (if 0 < (a0.size : Int) then (if (bt a0 0) < 65 then (roll_named.j0 k a0 true) else (roll_named.j0 k a0 (decide ((bt a0 0) > 90)))) else (none)))
theorem roll_named.mono_l : ∀ k, (∀ y0 y1, LeO (roll_named.j0 k y0 y1) (roll_named.j0 (k + 1) y0 y1)) ∧ (∀ y0 y1 y2, LeO (roll_named.l0 k y0 y1 y2) (roll_named.l0 (k + 1) y0 y1 y2)) ∧ (∀ y0 y1 y2 y3, LeO (roll_named.j2 k y0 y1 y2 y3) (roll_named.j2 (k + 1) y0 y1 y2 y3))
 | 0 => ⟨fun _ _ r h => by simp [roll_named.j0] at h, fun _ _ _ r h => by simp [roll_named.l0] at h, fun _ _ _ _ r h => by simp [roll_named.j2] at h⟩
 | k + 1 => by
  obtain ⟨ih0, ih1, ih2⟩ := roll_named.mono_l k
  refine ⟨?_, ?_, ?_⟩
  ·intro y0 y1
   unfold roll_named.j0
   repeat' first
   | (with_reducible exact ih0 _ _)
   | (with_reducible exact ih1 _ _ _)
   | (with_reducible exact ih2 _ _ _ _)
   | (with_reducible exact LeO.refl _)
   | (with_reducible exact LeO.none _)
   | (with_reducible refine LeO.ite ?_ ?_)
   | (with_reducible refine LeO.bind ?_ (fun _ => ?_))
   | exact ih0 _ _
   | exact ih1 _ _ _
   | exact ih2 _ _ _ _
   | exact LeO.none _
   | refine LeO.ite ?_ ?_
   | refine LeO.bind ?_ (fun _ => ?_)
  ·intro y0 y1 y2
   unfold roll_named.l0
   repeat' first
   | (with_reducible exact ih0 _ _)
   | (with_reducible exact ih1 _ _ _)
   | (with_reducible exact ih2 _ _ _ _)
   | (with_reducible exact LeO.refl _)
   | (with_reducible exact LeO.none _)
   | (with_reducible refine LeO.ite ?_ ?_)
   | (with_reducible refine LeO.bind ?_ (fun _ => ?_))
   | exact ih0 _ _
   | exact ih1 _ _ _
   | exact ih2 _ _ _ _
   | exact LeO.none _
   | refine LeO.ite ?_ ?_
   | refine LeO.bind ?_ (fun _ => ?_)
  ·intro y0 y1 y2 y3
   unfold roll_named.j2
   repeat' first
   | (with_reducible exact ih0 _ _)
   | (with_reducible exact ih1 _ _ _)
   | (with_reducible exact ih2 _ _ _ _)
   | (with_reducible exact LeO.refl _)
   | (with_reducible exact LeO.none _)
   | (with_reducible refine LeO.ite ?_ ?_)
   | (with_reducible refine LeO.bind ?_ (fun _ => ?_))
   | exact ih0 _ _
   | exact ih1 _ _ _
   | exact ih2 _ _ _ _
   | exact LeO.none _
   | refine LeO.ite ?_ ?_
   | refine LeO.bind ?_ (fun _ => ?_)
theorem roll_named.mono : ∀ a0 k, LeO (roll_named.f k a0) (roll_named.f (k + 1) a0) := by
 intro a0 k; obtain ⟨ih0, ih1, ih2⟩ := roll_named.mono_l k
 unfold roll_named.f
 repeat' first
  | (with_reducible exact ih0 _ _)
  | (with_reducible exact ih1 _ _ _)
  | (with_reducible exact ih2 _ _ _ _)
  | (with_reducible exact LeO.refl _)
  | (with_reducible exact LeO.none _)
  | (with_reducible refine LeO.ite ?_ ?_)
  | (with_reducible refine LeO.bind ?_ (fun _ => ?_))
  | exact ih0 _ _
  | exact ih1 _ _ _
  | exact ih2 _ _ _ _
  | exact LeO.none _
  | refine LeO.ite ?_ ?_
  | refine LeO.bind ?_ (fun _ => ?_)
set_option maxHeartbeats 8000000 in
set_option maxRecDepth 100000 in
theorem roll_named.calls (k : Nat) (a0 : ByteArray) (r : Bool) (w : World) (h : roll_named.f k a0 = some r) :
  Calls Tryz.prog 23 #[.string a0] w fun e w' => e = .returned (.bool r) ∧ Drawn0 w w' := by
 have H : (if a0.toList = ([] : List UInt8) then (roll_named.j0 k a0 true) else (if (a0.size : Int) > 8 then (roll_named.j0 k a0 true) else (if 0 < (a0.size : Int) then (if (bt a0 0) < 65 then (roll_named.j0 k a0 true) else (roll_named.j0 k a0 (decide ((bt a0 0) > 90)))) else (none)))) = some r := h; clear h; have HC2 := Aside0.mk H; clear H
 go_enter Tryz.func23, Tryz.ntmps23
 go_upto_region 1 with (fail)
 go_cut [20] (fun v20 wc => ∃ (kq : Nat) (x20_1 : Bool), v20 = .bool x20_1 ∧ Aside0 (roll_named.j0 kq a0 x20_1 = some r) ∧ Aside0 (kq ≤ k) ∧ Drawn0 w wc)
 case first =>
  have H := HC2.out; clear HC2
  by_cases c3 : a0.toList = ([] : List UInt8)
  ·rw [if_pos c3] at H; have c3b0 : (a0.toList == ([] : List UInt8)) = true := beq_iff_eq.mpr c3; have c3b1 : (a0.toList != ([] : List UInt8)) = false := bne_eq_false_iff_eq.mpr c3; clear c3
   (first | rw [c3b0] | (simp only [i64_w, i32_w]; rw [c3b0]) | skip)
   have H' := Aside0.mk H; clear H
   go_wp2
   go_meet
   case rel => exact ⟨_, (true), (by first | rfl | (simp; done) | (simp [*]; done)), H', ⟨by first | omega | exact Nat.le_refl _⟩, by repeat (first | exact Drawn0.refl _ | apply Drawn0.step)⟩
  ·rw [if_neg c3] at H; have c3b0 : (a0.toList == ([] : List UInt8)) = false := beq_eq_false_iff_ne.mpr c3; have c3b1 : (a0.toList != ([] : List UInt8)) = true := bne_iff_ne.mpr c3
   (first | rw [c3b0] | (simp only [i64_w, i32_w]; rw [c3b0]) | skip)
   by_cases c4 : (a0.size : Int) > 8
   ·rw [if_pos c4] at H; have c4b0 : decide (8 < (a0.size : Int)) = true := decide_eq_true c4; have c4b1 : decide (8 < a0.size) = true := decide_eq_true (by omega); clear c4; have H' := Aside0.mk H; clear H
    go_wp2
    go_meet
    case rel => exact ⟨_, (true), (by first | rfl | (simp; done) | (simp [*]; done)), H', ⟨by first | omega | exact Nat.le_refl _⟩, by repeat (first | exact Drawn0.refl _ | apply Drawn0.step)⟩
   ·rw [if_neg c4] at H; have c4b0 : decide (8 < (a0.size : Int)) = false := decide_eq_false c4; have c4b1 : decide (8 < a0.size) = false := decide_eq_false (by omega); clear c4
    by_cases c5 : 0 < (a0.size : Int)
    ·rw [if_pos c5] at H; have c5b0 : decide (0 < (a0.size : Int)) = true := decide_eq_true c5; have c5b1 : decide (0 < a0.size) = true := decide_eq_true (by omega); clear c5
     by_cases c7 : (bt a0 0) < 65
     ·rw [if_pos c7] at H; have c7b0 : decide ((bt a0 0) < 65) = true := decide_eq_true c7; clear c7; have H' := Aside0.mk H; clear H; have p6 : 0 ≤ (0 : Int) := (by omega); have q6 : 0 < a0.size := (by have : (0 : Int) < (a0.size : Int) := oda; omega); have hx6 : ∀ h : 0 < a0.size, ((a0[0]'h).toNat : Int) = bt a0 0 := bt_at a0 0; clear p6; have qi6 : (0 < (a0.size : Int)) = True := eq_true (oda); replace q6 := eq_true q6
      go_wp2
      go_meet
      case rel => exact ⟨_, (true), (by first | rfl | (simp; done) | (simp [*]; done)), H', ⟨by first | omega | exact Nat.le_refl _⟩, by repeat (first | exact Drawn0.refl _ | apply Drawn0.step)⟩
     ·rw [if_neg c7] at H; have c7b0 : decide ((bt a0 0) < 65) = false := decide_eq_false c7; clear c7; have H' := Aside0.mk H; clear H; have p6 : 0 ≤ (0 : Int) := (by omega); have q6 : 0 < a0.size := (by have : (0 : Int) < (a0.size : Int) := oda; omega); have hx6 : ∀ h : 0 < a0.size, ((a0[0]'h).toNat : Int) = bt a0 0 := bt_at a0 0; clear p6; have qi6 : (0 < (a0.size : Int)) = True := eq_true (oda); replace q6 := eq_true q6; have p8 : 0 ≤ (0 : Int) := (by omega); have q8 : 0 < a0.size := (by have : (0 : Int) < (a0.size : Int) := oda; omega); have hx8 : ∀ h : 0 < a0.size, ((a0[0]'h).toNat : Int) = bt a0 0 := bt_at a0 0; clear p8; have qi8 : (0 < (a0.size : Int)) = True := eq_true (oda); replace q8 := eq_true q8
      go_wp2
      go_meet
      case rel => exact ⟨_, (decide ((bt a0 0) > 90)), (by first | rfl | (simp; done) | (simp [*]; done)), H', ⟨by first | omega | exact Nat.le_refl _⟩, by repeat (first | exact Drawn0.refl _ | apply Drawn0.step)⟩
    ·rw [if_neg c5] at H; exact absurd H (by simp)
 case rest =>
  clear HC2
  try clear c2
  try clear p2
  try clear c3
  try clear c3b0
  try clear c3b1
  try clear c4
  try clear c4b0
  try clear c4b1
  try clear c5
  try clear c5b0
  try clear c5b1
  try clear p6
  try clear q6
  try clear hx6
  try clear qi6
  try clear c7
  try clear c7b0
  try clear p8
  try clear q8
  try clear hx8
  try clear qi8
  try clear p6
  try clear p8
  try clear q6
  try clear q8
  obtain ⟨kq, x20_1, rfl, HA, HJ1, ⟨mc1, rfl⟩⟩ := hcut
  cases kq with
  | zero => exact absurd HA.out (by simp [roll_named.j0])
  | succ kj1 =>
   have H := HA.out; clear HA; simp only [roll_named.j0] at H
   by_cases c9 : x20_1 = true
   ·subst c9
    have H1 : (some false) = some r := by rw [if_pos rfl] at H; exact H
    clear H; have H := H1; clear H1; obtain rfl := Option.some.inj H
    go_wp2
    go_ret
    exact ⟨by first | rfl | (simp; done) | (simp [*]; done), by repeat (first | exact Drawn0.refl _ | apply Drawn0.step)⟩
   ·replace c9 := Bool.eq_false_iff.mpr c9; subst c9
    have H1 : (roll_named.l0 kj1 a0 (a0.size : Int) 0) = some r := by rw [if_neg (show ¬ (false = true) by decide)] at H; exact H
    clear H; have H := H1; clear H1; have H' := Aside0.mk H; clear H
    go_wp2
    go_loopg [23] kj1 (fun kq v23 w' => ∃ (x23_2 : Int), v23 = .int .i64 x23_2 ∧ Aside0 (roll_named.l0 kq a0 (a0.size : Int) x23_2 = some r) ∧ Aside0 (kq ≤ kj1) ∧ Drawn0 w w')
    case atStart => exact ⟨(0), (by first | rfl | (simp; done) | (simp [*]; done)), H', ⟨Nat.le_refl _⟩, by repeat (first | exact Drawn0.refl _ | apply Drawn0.step)⟩
    case round =>
     clear H'
     try clear c1
     try clear c2
     try clear p2
     try clear c3
     try clear c3b0
     try clear c3b1
     try clear c4
     try clear c4b0
     try clear c4b1
     try clear c5
     try clear c5b0
     try clear c5b1
     try clear p6
     try clear q6
     try clear hx6
     try clear qi6
     try clear c7
     try clear c7b0
     try clear p8
     try clear q8
     try clear hx8
     try clear qi8
     try clear c9
     try clear p2
     try clear p6
     try clear p8
     try clear q6
     try clear q8
     obtain ⟨x23_2, rfl, HA, HK2, ⟨m2, rfl⟩⟩ := hrel
     cases gk with
     | zero => exact absurd HA.out (by simp [roll_named.l0])
     | succ k2 =>
      have H := HA.out; clear HA; simp only [roll_named.l0] at H
      by_cases c10 : x23_2 < (a0.size : Int)
      ·rw [if_pos c10] at H; have c10b0 : decide (x23_2 < (a0.size : Int)) = true := decide_eq_true c10; clear c10; have HC11 := Aside0.mk H; clear H
       go_upto_region 6 with (fail)
       go_cut [37] (fun v37 wc => ∃ (kq : Nat) (x37_10 : Bool), v37 = .bool x37_10 ∧ Aside0 (roll_named.j2 kq a0 (a0.size : Int) x23_2 x37_10 = some r) ∧ Aside0 (kq ≤ k2) ∧ Drawn0 w wc)
       case first =>
        have H := HC11.out; clear HC11
        by_cases c12 : 0 ≤ x23_2
        ·rw [if_pos c12] at H; have c12b0 : decide (0 ≤ x23_2) = true := decide_eq_true c12; clear c12
         (first | rw [c12b0] | (simp only [i64_w, i32_w]; rw [c12b0]) | skip)
         by_cases c13 : x23_2 < (a0.size : Int)
         ·rw [if_pos c13] at H; have c13b0 : decide (x23_2 < (a0.size : Int)) = true := decide_eq_true c13; clear c13; replace H := Option.bind_eq_some_iff.mp H; obtain ⟨t108, A150, H⟩ := H; replace H : (if t108 = true then (roll_named.j2 k2 a0 (a0.size : Int) x23_2 false) else ((roll_digit.f (bt a0 x23_2)).bind fun t109 => (roll_named.j2 k2 a0 (a0.size : Int) x23_2 (!t109)))) = some r := H; have A15 := Aside0.mk A150; clear A150
          by_cases c16 : t108 = true
          ·subst c16
           have H1 : (roll_named.j2 k2 a0 (a0.size : Int) x23_2 false) = some r := by rw [if_pos rfl] at H; exact H
           clear H; have H := H1; clear H1; have H' := Aside0.mk H; clear H; have p14 : 0 ≤ (x23_2 : Int) := oda; have q14 : x23_2 < (a0.size : Int) := oda; have hx14 := bt_at a0 x23_2; replace p14 := eq_true p14; replace q14 := eq_true q14
           go_wp2_with (first | ((with_reducible refine gate_callee (f := 45) rfl ?_); refine goesA (some 29) rfl rfl Tryz.func45 (by kernel_rfl) rfl #[.int .u8 (bt a0 x23_2)] rfl ?_; (with_reducible refine (roll_letter.calls (bt a0 x23_2) true _ A15.out).mono ?_); rintro e w' ⟨rfl, ⟨nd, rfl⟩⟩; refine ⟨_, rfl, ?_⟩))
           go_meet
           case rel => exact ⟨_, (false), (by first | rfl | (simp; done) | (simp [*]; done)), H', ⟨by have := HJ1.out; have := HK2.out; first | omega | exact Nat.le_refl _⟩, by repeat (first | exact Drawn0.refl _ | apply Drawn0.step)⟩
          ·replace c16 := Bool.eq_false_iff.mpr c16; subst c16
           have H1 : ((roll_digit.f (bt a0 x23_2)).bind fun t109 => (roll_named.j2 k2 a0 (a0.size : Int) x23_2 (!t109))) = some r := by rw [if_neg (show ¬ (false = true) by decide)] at H; exact H
           clear H; have H := H1; clear H1; replace H := Option.bind_eq_some_iff.mp H; obtain ⟨t109, A180, H⟩ := H; replace H : (roll_named.j2 k2 a0 (a0.size : Int) x23_2 (!t109)) = some r := H; have A18 := Aside0.mk A180; clear A180; have H' := Aside0.mk H; clear H; have p14 : 0 ≤ (x23_2 : Int) := oda; have q14 : x23_2 < (a0.size : Int) := oda; have hx14 := bt_at a0 x23_2; replace p14 := eq_true p14; replace q14 := eq_true q14
           go_wp2_with (first | ((with_reducible refine gate_callee (f := 45) rfl ?_); refine goesA (some 29) rfl rfl Tryz.func45 (by kernel_rfl) rfl #[.int .u8 (bt a0 x23_2)] rfl ?_; (with_reducible refine (roll_letter.calls (bt a0 x23_2) false _ A15.out).mono ?_); rintro e w' ⟨rfl, ⟨nd, rfl⟩⟩; refine ⟨_, rfl, ?_⟩; have p17 : 0 ≤ (x23_2 : Int) := oda; have q17 : x23_2 < (a0.size : Int) := oda; have hx17 := bt_at a0 x23_2; replace p17 := eq_true p17; replace q17 := eq_true q17) | (go_at_call 46; (with_reducible refine (roll_digit.calls (bt a0 x23_2) t109 _ A18.out).mono ?_); rintro e w' ⟨rfl, ⟨nd, rfl⟩⟩))
           go_meet
           case rel => exact ⟨_, (!t109), (by first | rfl | (simp; done) | (simp [*]; done)), H', ⟨by have := HJ1.out; have := HK2.out; first | omega | exact Nat.le_refl _⟩, by repeat (first | exact Drawn0.refl _ | apply Drawn0.step)⟩
         ·rw [if_neg c13] at H; exact absurd H (by simp)
        ·rw [if_neg c12] at H; exact absurd H (by simp)
       case rest =>
        clear HC11
        try clear c1
        try clear p1
        try clear q1
        try clear hx1
        try clear c2
        try clear p2
        try clear c3
        try clear c3b0
        try clear c3b1
        try clear c4
        try clear c4b0
        try clear c4b1
        try clear c5
        try clear c5b0
        try clear c5b1
        try clear p6
        try clear q6
        try clear hx6
        try clear qi6
        try clear c7
        try clear c7b0
        try clear p8
        try clear q8
        try clear hx8
        try clear qi8
        try clear c9
        try clear c10
        try clear c10b0
        try clear c12
        try clear c12b0
        try clear c13
        try clear c13b0
        try clear p14
        try clear q14
        try clear hx14
        try clear c16
        try clear p17
        try clear q17
        try clear hx17
        try clear p14
        try clear p17
        try clear p2
        try clear p6
        try clear p8
        try clear q14
        try clear q17
        try clear q6
        try clear q8
        obtain ⟨kq, x37_10, rfl, HA, HJ10, ⟨mc10, rfl⟩⟩ := hcut
        cases kq with
        | zero => exact absurd HA.out (by simp [roll_named.j2])
        | succ kj10 =>
         have H := HA.out; clear HA; simp only [roll_named.j2] at H
         by_cases c19 : x37_10 = true
         ·subst c19
          have H1 : (some false) = some r := by rw [if_pos rfl] at H; exact H
          clear H; have H := H1; clear H1; obtain rfl := Option.some.inj H
          go_wp2
          go_ret
          exact ⟨by first | rfl | (simp; done) | (simp [*]; done), by repeat (first | exact Drawn0.refl _ | apply Drawn0.step)⟩
         ·replace c19 := Bool.eq_false_iff.mpr c19; subst c19
          have H1 : (roll_named.l0 kj10 a0 (a0.size : Int) (wrap64 (x23_2 + 1))) = some r := by rw [if_neg (show ¬ (false = true) by decide)] at H; exact H
          clear H; have H := H1; clear H1; have H' := Aside0.mk H; clear H
          go_wp2
          go_roundg kj10
          case measure => have := HJ1.out; have := HK2.out; have := HJ10.out; omega
          case rel => exact ⟨(wrap64 (x23_2 + 1)), (by first | rfl | (simp; done) | (simp [*]; done)), H', ⟨by have := HJ1.out; have := HK2.out; have := HJ10.out; omega⟩, by repeat (first | exact Drawn0.refl _ | apply Drawn0.step)⟩
      ·rw [if_neg c10] at H; have c10b0 : decide (x23_2 < (a0.size : Int)) = false := decide_eq_false c10; clear c10; obtain rfl := Option.some.inj H
       go_wp2
       go_ret
       exact ⟨by first | rfl | (simp; done) | (simp [*]; done), by repeat (first | exact Drawn0.refl _ | apply Drawn0.step)⟩

end Go.Proofs.YtdblkmnbkpphjaaGreatDoor.P
namespace Go.Proofs.YtdblkmnbkpphjaaGreatDoor.P
open Go.RowKit Go.Proofs.YtdblkmnbkpphjaaGreatDoorW.PrintWords Go.Proofs.YtdblkmnbkpphjaaGreatDoorW.PrintLast Go.Proofs.YtdblkmnbkpphjaaGreatDoorW.PrintMore Go.Proofs.YtdblkmnbkpphjaaGreatDoorW.PrintAuto
attribute [local go_sem] max2_int min2_int max_two min_two max_three min_three max_four min_four   -- for this text's walks alone
set_option linter.unusedVariables false
set_option linter.unusedSimpArgs false

def roll_size.f (a0 : Int) : Option (Bool) := if a0 ≥ 1 then (some (decide (a0 ≤ 1048576))) else (some false)
set_option maxHeartbeats 8000000 in
set_option maxRecDepth 100000 in
theorem roll_size.calls (a0 : Int) (r : Bool) (w : World) (h : roll_size.f a0 = some r) :
  Calls Tryz.prog 24 #[.int .i64 a0] w fun e w' => e = .returned (.bool r) ∧ Drawn0 w w' := by
 have H : (if a0 ≥ 1 then (some (decide (a0 ≤ 1048576))) else (some false)) = some r := h; clear h
 by_cases c2 : a0 ≥ 1
 ·rw [if_pos c2] at H; have c2b0 : decide (1 ≤ a0) = true := decide_eq_true c2; clear c2; obtain rfl := Option.some.inj H
  go_enter Tryz.func24, Tryz.ntmps24
  go_wp2
  go_ret
  exact ⟨by first | rfl | (simp; done) | (simp [*]; done), by repeat (first | exact Drawn0.refl _ | apply Drawn0.step)⟩
 ·rw [if_neg c2] at H; have c2b0 : decide (1 ≤ a0) = false := decide_eq_false c2; clear c2; obtain rfl := Option.some.inj H
  go_enter Tryz.func24, Tryz.ntmps24
  go_wp2
  go_ret
  exact ⟨by first | rfl | (simp; done) | (simp [*]; done), by repeat (first | exact Drawn0.refl _ | apply Drawn0.step)⟩

end Go.Proofs.YtdblkmnbkpphjaaGreatDoor.P
namespace Go.Proofs.YtdblkmnbkpphjaaGreatDoor.P
open Go.RowKit Go.Proofs.YtdblkmnbkpphjaaGreatDoorW.PrintWords Go.Proofs.YtdblkmnbkpphjaaGreatDoorW.PrintLast Go.Proofs.YtdblkmnbkpphjaaGreatDoorW.PrintMore Go.Proofs.YtdblkmnbkpphjaaGreatDoorW.PrintAuto
attribute [local go_sem] max2_int min2_int max_two min_two max_three min_three max_four min_four   -- for this text's walks alone
set_option linter.unusedVariables false
set_option linter.unusedSimpArgs false

def roll_tone.f (a0 : Int) : Option (Bool) := if a0 ≥ (-1000) then (some (decide (a0 ≤ 1000))) else (some false)
set_option maxHeartbeats 8000000 in
set_option maxRecDepth 100000 in
theorem roll_tone.calls (a0 : Int) (r : Bool) (w : World) (h : roll_tone.f a0 = some r) :
  Calls Tryz.prog 25 #[.int .i64 a0] w fun e w' => e = .returned (.bool r) ∧ Drawn0 w w' := by
 have H : (if a0 ≥ (-1000) then (some (decide (a0 ≤ 1000))) else (some false)) = some r := h; clear h
 by_cases c2 : a0 ≥ (-1000)
 ·rw [if_pos c2] at H; have c2b0 : decide ((-1000) ≤ a0) = true := decide_eq_true c2; clear c2; obtain rfl := Option.some.inj H
  go_enter Tryz.func25, Tryz.ntmps25
  go_wp2
  go_ret
  exact ⟨by first | rfl | (simp; done) | (simp [*]; done), by repeat (first | exact Drawn0.refl _ | apply Drawn0.step)⟩
 ·rw [if_neg c2] at H; have c2b0 : decide ((-1000) ≤ a0) = false := decide_eq_false c2; clear c2; obtain rfl := Option.some.inj H
  go_enter Tryz.func25, Tryz.ntmps25
  go_wp2
  go_ret
  exact ⟨by first | rfl | (simp; done) | (simp [*]; done), by repeat (first | exact Drawn0.refl _ | apply Drawn0.step)⟩

end Go.Proofs.YtdblkmnbkpphjaaGreatDoor.P
namespace Go.Proofs.YtdblkmnbkpphjaaGreatDoor.P
open Go.RowKit Go.Proofs.YtdblkmnbkpphjaaGreatDoorW.PrintWords Go.Proofs.YtdblkmnbkpphjaaGreatDoorW.PrintLast Go.Proofs.YtdblkmnbkpphjaaGreatDoorW.PrintMore Go.Proofs.YtdblkmnbkpphjaaGreatDoorW.PrintAuto
attribute [local go_sem] max2_int min2_int max_two min_two max_three min_three max_four min_four   -- for this text's walks alone
set_option linter.unusedVariables false
set_option linter.unusedSimpArgs false

def roll_within.f (a0 : Int) (a1 : Int) (a2 : Int) : Option (Bool) := if a1 ≥ 1 then (if a1 ≤ a2 then (if a0 ≥ 0 then (some (decide (a0 ≤ (wrap64 (a2 - a1))))) else (some false)) else (some false)) else (some false)
set_option maxHeartbeats 8000000 in
set_option maxRecDepth 100000 in
theorem roll_within.calls (a0 : Int) (a1 : Int) (a2 : Int) (r : Bool) (w : World) (h : roll_within.f a0 a1 a2 = some r) :
  Calls Tryz.prog 26 #[.int .i64 a0, .int .i64 a1, .int .i64 a2] w fun e w' => e = .returned (.bool r) ∧ Drawn0 w w' := by
 have H : (if a1 ≥ 1 then (if a1 ≤ a2 then (if a0 ≥ 0 then (some (decide (a0 ≤ (wrap64 (a2 - a1))))) else (some false)) else (some false)) else (some false)) = some r := h; clear h
 by_cases c4 : a1 ≥ 1
 ·rw [if_pos c4] at H; have c4b0 : decide (1 ≤ a1) = true := decide_eq_true c4; clear c4
  by_cases c5 : a1 ≤ a2
  ·rw [if_pos c5] at H; have c5b0 : decide (a1 ≤ a2) = true := decide_eq_true c5; clear c5
   by_cases c6 : a0 ≥ 0
   ·rw [if_pos c6] at H; have c6b0 : decide (0 ≤ a0) = true := decide_eq_true c6; clear c6; obtain rfl := Option.some.inj H
    go_enter Tryz.func26, Tryz.ntmps26
    go_wp2
    go_ret
    exact ⟨by first | rfl | (simp; done) | (simp [*]; done), by repeat (first | exact Drawn0.refl _ | apply Drawn0.step)⟩
   ·rw [if_neg c6] at H; have c6b0 : decide (0 ≤ a0) = false := decide_eq_false c6; clear c6; obtain rfl := Option.some.inj H
    go_enter Tryz.func26, Tryz.ntmps26
    go_wp2
    go_ret
    exact ⟨by first | rfl | (simp; done) | (simp [*]; done), by repeat (first | exact Drawn0.refl _ | apply Drawn0.step)⟩
  ·rw [if_neg c5] at H; have c5b0 : decide (a1 ≤ a2) = false := decide_eq_false c5; clear c5; obtain rfl := Option.some.inj H
   go_enter Tryz.func26, Tryz.ntmps26
   go_wp2
   go_ret
   exact ⟨by first | rfl | (simp; done) | (simp [*]; done), by repeat (first | exact Drawn0.refl _ | apply Drawn0.step)⟩
 ·rw [if_neg c4] at H; have c4b0 : decide (1 ≤ a1) = false := decide_eq_false c4; clear c4; obtain rfl := Option.some.inj H
  go_enter Tryz.func26, Tryz.ntmps26
  go_wp2
  go_ret
  exact ⟨by first | rfl | (simp; done) | (simp [*]; done), by repeat (first | exact Drawn0.refl _ | apply Drawn0.step)⟩

end Go.Proofs.YtdblkmnbkpphjaaGreatDoor.P
namespace Go.Proofs.YtdblkmnbkpphjaaGreatDoor.P
open Go.RowKit Go.Proofs.YtdblkmnbkpphjaaGreatDoorW.PrintWords Go.Proofs.YtdblkmnbkpphjaaGreatDoorW.PrintLast Go.Proofs.YtdblkmnbkpphjaaGreatDoorW.PrintMore Go.Proofs.YtdblkmnbkpphjaaGreatDoorW.PrintAuto
attribute [local go_sem] max2_int min2_int max_two min_two max_three min_three max_four min_four   -- for this text's walks alone
set_option linter.unusedVariables false
set_option linter.unusedSimpArgs false

mutual
def roll_Check.j0 : Nat → Bool → ByteArray → Int → Int → Int → Int → Int → List (S46) → Option (Int)
 | 0, _, _, _, _, _, _, _, _ => none
 | k + 1, x10, x111000, x111001, x111002, x111003, x111004, x111005, x111006 => if x10 = true then (some 3) else (if (x111006.length : Int) > 20 then (some 5) else (roll_Check.l0 k x111006 (x111006.length : Int) 0 x111000 x111001 x111002 x111003 x111004 x111005 x111006))
def roll_Check.l0 : Nat → List (S46) → Int → Int → ByteArray → Int → Int → Int → Int → Int → List (S46) → Option (Int)
 | 0, _, _, _, _, _, _, _, _, _, _ => none
 | k + 1, x48, x49, x50, x111000, x111001, x111002, x111003, x111004, x111005, x111006 => if x50 < x49 then (if 0 ≤ x50 then (if x50 < (x48.length : Int) then ((roll_within.f ((rd_T46 x48 x50).f0) ((rd_T46 x48 x50).f2) x111002).bind fun t119 => (if t119 = true then ((roll_within.f ((rd_T46 x48 x50).f1) ((rd_T46 x48 x50).f3) x111001).bind fun t120 => (roll_Check.j2 k x48 x49 x50 (!t120) x111000 x111001 x111002 x111003 x111004 x111005 x111006)) else (roll_Check.j2 k x48 x49 x50 true x111000 x111001 x111002 x111003 x111004 x111005 x111006))) else (none)) else (none)) else (some 0)
def roll_Check.j2 : Nat → List (S46) → Int → Int → Bool → ByteArray → Int → Int → Int → Int → Int → List (S46) → Option (Int)
 | 0, _, _, _, _, _, _, _, _, _, _, _ => none
 | k + 1, x48, x49, x50, x71, x111000, x111001, x111002, x111003, x111004, x111005, x111006 => if x71 = true then (some 3) else (roll_Check.l0 k x48 x49 (wrap64 (x50 + 1)) x111000 x111001 x111002 x111003 x111004 x111005 x111006)
end
def roll_Check.f (k : Nat) (a0_0 : ByteArray) (a0_1 : Int) (a0_2 : Int) (a0_3 : Int) (a0_4 : Int) (a0_5 : Int) (l0_6 : List (S46)) : Option (Int) := (roll_named.f k a0_0).bind fun t111 => (if t111 = true then ((roll_size.f a0_2).bind fun t112 => (if t112 = true then ((roll_size.f a0_1).bind fun t113 => (if t113 = true then ((roll_tone.f a0_3).bind fun t114 => (if t114 = true then ((roll_tone.f a0_4).bind fun t115 => (if t115 = true then ((roll_tone.f a0_5).bind fun t116 => (roll_Check.j0 k (!t116) a0_0 a0_1 a0_2 a0_3 a0_4 a0_5 l0_6)) else (roll_Check.j0 k true a0_0 a0_1 a0_2 a0_3 a0_4 a0_5 l0_6))) else (roll_Check.j0 k true a0_0 a0_1 a0_2 a0_3 a0_4 a0_5 l0_6))) else (roll_Check.j0 k true a0_0 a0_1 a0_2 a0_3 a0_4 a0_5 l0_6))) else (roll_Check.j0 k true a0_0 a0_1 a0_2 a0_3 a0_4 a0_5 l0_6))) else (some 1))
theorem roll_Check.mono_l : ∀ k, (∀ y0 y1 y2 y3 y4 y5 y6 y7, LeO (roll_Check.j0 k y0 y1 y2 y3 y4 y5 y6 y7) (roll_Check.j0 (k + 1) y0 y1 y2 y3 y4 y5 y6 y7)) ∧ (∀ y0 y1 y2 y3 y4 y5 y6 y7 y8 y9, LeO (roll_Check.l0 k y0 y1 y2 y3 y4 y5 y6 y7 y8 y9) (roll_Check.l0 (k + 1) y0 y1 y2 y3 y4 y5 y6 y7 y8 y9)) ∧ (∀ y0 y1 y2 y3 y4 y5 y6 y7 y8 y9 y10, LeO (roll_Check.j2 k y0 y1 y2 y3 y4 y5 y6 y7 y8 y9 y10) (roll_Check.j2 (k + 1) y0 y1 y2 y3 y4 y5 y6 y7 y8 y9 y10))
 | 0 => ⟨fun _ _ _ _ _ _ _ _ r h => by simp [roll_Check.j0] at h, fun _ _ _ _ _ _ _ _ _ _ r h => by simp [roll_Check.l0] at h, fun _ _ _ _ _ _ _ _ _ _ _ r h => by simp [roll_Check.j2] at h⟩
 | k + 1 => by
  obtain ⟨ih0, ih1, ih2⟩ := roll_Check.mono_l k
  refine ⟨?_, ?_, ?_⟩
  ·intro y0 y1 y2 y3 y4 y5 y6 y7
   unfold roll_Check.j0
   repeat' first
   | (with_reducible exact ih0 _ _ _ _ _ _ _ _)
   | (with_reducible exact ih1 _ _ _ _ _ _ _ _ _ _)
   | (with_reducible exact ih2 _ _ _ _ _ _ _ _ _ _ _)
   | (with_reducible exact roll_named.mono _ _)
   | (with_reducible exact LeO.refl _)
   | (with_reducible exact LeO.none _)
   | (with_reducible refine LeO.ite ?_ ?_)
   | (with_reducible refine LeO.bind ?_ (fun _ => ?_))
   | exact ih0 _ _ _ _ _ _ _ _
   | exact ih1 _ _ _ _ _ _ _ _ _ _
   | exact ih2 _ _ _ _ _ _ _ _ _ _ _
   | exact roll_named.mono _ _
   | exact LeO.none _
   | refine LeO.ite ?_ ?_
   | refine LeO.bind ?_ (fun _ => ?_)
  ·intro y0 y1 y2 y3 y4 y5 y6 y7 y8 y9
   unfold roll_Check.l0
   repeat' first
   | (with_reducible exact ih0 _ _ _ _ _ _ _ _)
   | (with_reducible exact ih1 _ _ _ _ _ _ _ _ _ _)
   | (with_reducible exact ih2 _ _ _ _ _ _ _ _ _ _ _)
   | (with_reducible exact roll_named.mono _ _)
   | (with_reducible exact LeO.refl _)
   | (with_reducible exact LeO.none _)
   | (with_reducible refine LeO.ite ?_ ?_)
   | (with_reducible refine LeO.bind ?_ (fun _ => ?_))
   | exact ih0 _ _ _ _ _ _ _ _
   | exact ih1 _ _ _ _ _ _ _ _ _ _
   | exact ih2 _ _ _ _ _ _ _ _ _ _ _
   | exact roll_named.mono _ _
   | exact LeO.none _
   | refine LeO.ite ?_ ?_
   | refine LeO.bind ?_ (fun _ => ?_)
  ·intro y0 y1 y2 y3 y4 y5 y6 y7 y8 y9 y10
   unfold roll_Check.j2
   repeat' first
   | (with_reducible exact ih0 _ _ _ _ _ _ _ _)
   | (with_reducible exact ih1 _ _ _ _ _ _ _ _ _ _)
   | (with_reducible exact ih2 _ _ _ _ _ _ _ _ _ _ _)
   | (with_reducible exact roll_named.mono _ _)
   | (with_reducible exact LeO.refl _)
   | (with_reducible exact LeO.none _)
   | (with_reducible refine LeO.ite ?_ ?_)
   | (with_reducible refine LeO.bind ?_ (fun _ => ?_))
   | exact ih0 _ _ _ _ _ _ _ _
   | exact ih1 _ _ _ _ _ _ _ _ _ _
   | exact ih2 _ _ _ _ _ _ _ _ _ _ _
   | exact roll_named.mono _ _
   | exact LeO.none _
   | refine LeO.ite ?_ ?_
   | refine LeO.bind ?_ (fun _ => ?_)
theorem roll_Check.mono : ∀ a0 a1 a2 a3 a4 a5 a6 k, LeO (roll_Check.f k a0 a1 a2 a3 a4 a5 a6) (roll_Check.f (k + 1) a0 a1 a2 a3 a4 a5 a6) := by
 intro a0 a1 a2 a3 a4 a5 a6 k; obtain ⟨ih0, ih1, ih2⟩ := roll_Check.mono_l k
 unfold roll_Check.f
 repeat' first
  | (with_reducible exact ih0 _ _ _ _ _ _ _ _)
  | (with_reducible exact ih1 _ _ _ _ _ _ _ _ _ _)
  | (with_reducible exact ih2 _ _ _ _ _ _ _ _ _ _ _)
  | (with_reducible exact roll_named.mono _ _)
  | (with_reducible exact LeO.refl _)
  | (with_reducible exact LeO.none _)
  | (with_reducible refine LeO.ite ?_ ?_)
  | (with_reducible refine LeO.bind ?_ (fun _ => ?_))
  | exact ih0 _ _ _ _ _ _ _ _
  | exact ih1 _ _ _ _ _ _ _ _ _ _
  | exact ih2 _ _ _ _ _ _ _ _ _ _ _
  | exact roll_named.mono _ _
  | exact LeO.none _
  | refine LeO.ite ?_ ?_
  | refine LeO.bind ?_ (fun _ => ?_)
set_option maxHeartbeats 8000000 in
set_option maxRecDepth 100000 in
theorem roll_Check.calls (k : Nat) (a0_0 : ByteArray) (a0_1 : Int) (a0_2 : Int) (a0_3 : Int) (a0_4 : Int) (a0_5 : Int) (A0_6 : Option Addr) (c0_6 : Nat) (l0_6 : List (S46)) (r : Int) (w : World) (hr0_6 : Kd.C k46 w A0_6 l0_6.length l0_6) (hc0_6 : l0_6.length ≤ c0_6) (h : roll_Check.f k a0_0 a0_1 a0_2 a0_3 a0_4 a0_5 l0_6 = some r) :
  Calls Tryz.prog 11 #[.agg #[.string a0_0, .int .i64 a0_1, .int .i64 a0_2, .int .i64 a0_3, .int .i64 a0_4, .int .i64 a0_5, .slice A0_6 l0_6.length c0_6]] w fun e w' => e = .returned (.int .i64 r) ∧ Below w.heap.size w w' := by
 have hu26 := Tryz.underlying26; have hu46 := Tryz.underlying46; have HR0_6 := Aside0.mk hr0_6; have HC0_6 := Aside0.mk hc0_6; clear hr0_6 hc0_6; have HB := Aside0.mk (Below.refl w.heap.size w); have H : ((roll_named.f k a0_0).bind fun t111 => (if t111 = true then ((roll_size.f a0_2).bind fun t112 => (if t112 = true then ((roll_size.f a0_1).bind fun t113 => (if t113 = true then ((roll_tone.f a0_3).bind fun t114 => (if t114 = true then ((roll_tone.f a0_4).bind fun t115 => (if t115 = true then ((roll_tone.f a0_5).bind fun t116 => (roll_Check.j0 k (!t116) a0_0 a0_1 a0_2 a0_3 a0_4 a0_5 l0_6)) else (roll_Check.j0 k true a0_0 a0_1 a0_2 a0_3 a0_4 a0_5 l0_6))) else (roll_Check.j0 k true a0_0 a0_1 a0_2 a0_3 a0_4 a0_5 l0_6))) else (roll_Check.j0 k true a0_0 a0_1 a0_2 a0_3 a0_4 a0_5 l0_6))) else (roll_Check.j0 k true a0_0 a0_1 a0_2 a0_3 a0_4 a0_5 l0_6))) else (some 1))) = some r := h; clear h; replace H := Option.bind_eq_some_iff.mp H; obtain ⟨t111, A20, H⟩ := H; replace H : (if t111 = true then ((roll_size.f a0_2).bind fun t112 => (if t112 = true then ((roll_size.f a0_1).bind fun t113 => (if t113 = true then ((roll_tone.f a0_3).bind fun t114 => (if t114 = true then ((roll_tone.f a0_4).bind fun t115 => (if t115 = true then ((roll_tone.f a0_5).bind fun t116 => (roll_Check.j0 k (!t116) a0_0 a0_1 a0_2 a0_3 a0_4 a0_5 l0_6)) else (roll_Check.j0 k true a0_0 a0_1 a0_2 a0_3 a0_4 a0_5 l0_6))) else (roll_Check.j0 k true a0_0 a0_1 a0_2 a0_3 a0_4 a0_5 l0_6))) else (roll_Check.j0 k true a0_0 a0_1 a0_2 a0_3 a0_4 a0_5 l0_6))) else (roll_Check.j0 k true a0_0 a0_1 a0_2 a0_3 a0_4 a0_5 l0_6))) else (some 1)) = some r := H; have A2 := Aside0.mk A20; clear A20
 by_cases c3 : t111 = true
 ·subst c3
  have H1 : ((roll_size.f a0_2).bind fun t112 => (if t112 = true then ((roll_size.f a0_1).bind fun t113 => (if t113 = true then ((roll_tone.f a0_3).bind fun t114 => (if t114 = true then ((roll_tone.f a0_4).bind fun t115 => (if t115 = true then ((roll_tone.f a0_5).bind fun t116 => (roll_Check.j0 k (!t116) a0_0 a0_1 a0_2 a0_3 a0_4 a0_5 l0_6)) else (roll_Check.j0 k true a0_0 a0_1 a0_2 a0_3 a0_4 a0_5 l0_6))) else (roll_Check.j0 k true a0_0 a0_1 a0_2 a0_3 a0_4 a0_5 l0_6))) else (roll_Check.j0 k true a0_0 a0_1 a0_2 a0_3 a0_4 a0_5 l0_6))) else (roll_Check.j0 k true a0_0 a0_1 a0_2 a0_3 a0_4 a0_5 l0_6))) = some r := by rw [if_pos rfl] at H; exact H
  clear H; have H := H1; clear H1; have HC4 := Aside0.mk H; clear H
  go_enter Tryz.func11, Tryz.ntmps11
  go_upto_region 3 with (first | ((with_reducible refine gate_dst (N := 1) rfl ?_); refine box_event ?hg (N := 1) ?hd (cs := #[.string a0_0, .int .i64 a0_1, .int .i64 a0_2, .int .i64 a0_3, .int .i64 a0_4, .int .i64 a0_5, .slice A0_6 l0_6.length c0_6]) (t := 26) ?hr ?_; (case hd => rfl); (case hg => rfl); (case hr => first | (go_simp; done) | (go_simp; rfl)); intro gb110 hg w5 hbox hb; have BK110 := Aside0.mk (hbox); have GW110 := Aside0.mk ((by rw [hg]; exact (below_size (be HB.out)) : w.heap.size ≤ gb110)); have GE110 := Aside0.mk ((by rw [hg]; exact (below_size (be HB.out)) : w.heap.size ≤ gb110)); replace HB := Aside0.mk (below_step (be HB.out) hb); clear hb hbox hg; have hcz6_0 := bc BK110.out 0 (.string a0_0) rfl; have hcz6_1 := bc BK110.out 1 (.int .i64 a0_1) rfl; have hcz6_2 := bc BK110.out 2 (.int .i64 a0_2) rfl; have hcz6_3 := bc BK110.out 3 (.int .i64 a0_3) rfl; have hcz6_4 := bc BK110.out 4 (.int .i64 a0_4) rfl; have hcz6_5 := bc BK110.out 5 (.int .i64 a0_5) rfl; have hcz6_6 := bc BK110.out 6 (.slice A0_6 l0_6.length c0_6) rfl; have hfz6_0 := blk_frozen BK110.out 0; have hfz6_1 := blk_frozen BK110.out 1; have hfz6_2 := blk_frozen BK110.out 2; have hfz6_3 := blk_frozen BK110.out 3; have hfz6_4 := blk_frozen BK110.out 4; have hfz6_5 := blk_frozen BK110.out 5; have hfz6_6 := blk_frozen BK110.out 6) | ((with_reducible refine gate_callee (f := 23) rfl ?_); refine goesA (some 8) rfl rfl Tryz.func23 (by kernel_rfl) rfl #[.string a0_0] rfl ?_; (with_reducible refine (roll_named.calls k a0_0 true _ A2.out).mono ?_); rintro e w' ⟨rfl, ⟨nd, rfl⟩⟩; refine ⟨_, rfl, ?_⟩))
  (try simp only [Act.put, List.setIfInBounds_toArray, List.set_cons_zero, List.set_cons_succ])
  go_cut [10] (fun v10 wc => ∃ (kq : Nat) (x10_3 : Bool), v10 = .bool x10_3 ∧ Aside0 (roll_Check.j0 kq x10_3 a0_0 a0_1 a0_2 a0_3 a0_4 a0_5 l0_6 = some r) ∧ Aside0 (kq ≤ k) ∧ Aside0 (wc.heap[gb110]? = some (.cells #[.string a0_0, .int .i64 a0_1, .int .i64 a0_2, .int .i64 a0_3, .int .i64 a0_4, .int .i64 a0_5, (.slice A0_6 l0_6.length c0_6)] 26 (0, 0))) ∧ Aside0 (Below w.heap.size w wc))
  case first =>
   have H := HC4.out; clear HC4; replace H := Option.bind_eq_some_iff.mp H; obtain ⟨t112, A70, H⟩ := H; replace H : (if t112 = true then ((roll_size.f a0_1).bind fun t113 => (if t113 = true then ((roll_tone.f a0_3).bind fun t114 => (if t114 = true then ((roll_tone.f a0_4).bind fun t115 => (if t115 = true then ((roll_tone.f a0_5).bind fun t116 => (roll_Check.j0 k (!t116) a0_0 a0_1 a0_2 a0_3 a0_4 a0_5 l0_6)) else (roll_Check.j0 k true a0_0 a0_1 a0_2 a0_3 a0_4 a0_5 l0_6))) else (roll_Check.j0 k true a0_0 a0_1 a0_2 a0_3 a0_4 a0_5 l0_6))) else (roll_Check.j0 k true a0_0 a0_1 a0_2 a0_3 a0_4 a0_5 l0_6))) else (roll_Check.j0 k true a0_0 a0_1 a0_2 a0_3 a0_4 a0_5 l0_6)) = some r := H; have A7 := Aside0.mk A70; clear A70
   by_cases c8 : t112 = true
   ·subst c8
    have H1 : ((roll_size.f a0_1).bind fun t113 => (if t113 = true then ((roll_tone.f a0_3).bind fun t114 => (if t114 = true then ((roll_tone.f a0_4).bind fun t115 => (if t115 = true then ((roll_tone.f a0_5).bind fun t116 => (roll_Check.j0 k (!t116) a0_0 a0_1 a0_2 a0_3 a0_4 a0_5 l0_6)) else (roll_Check.j0 k true a0_0 a0_1 a0_2 a0_3 a0_4 a0_5 l0_6))) else (roll_Check.j0 k true a0_0 a0_1 a0_2 a0_3 a0_4 a0_5 l0_6))) else (roll_Check.j0 k true a0_0 a0_1 a0_2 a0_3 a0_4 a0_5 l0_6))) = some r := by rw [if_pos rfl] at H; exact H
    clear H; have H := H1; clear H1; replace H := Option.bind_eq_some_iff.mp H; obtain ⟨t113, A90, H⟩ := H; replace H : (if t113 = true then ((roll_tone.f a0_3).bind fun t114 => (if t114 = true then ((roll_tone.f a0_4).bind fun t115 => (if t115 = true then ((roll_tone.f a0_5).bind fun t116 => (roll_Check.j0 k (!t116) a0_0 a0_1 a0_2 a0_3 a0_4 a0_5 l0_6)) else (roll_Check.j0 k true a0_0 a0_1 a0_2 a0_3 a0_4 a0_5 l0_6))) else (roll_Check.j0 k true a0_0 a0_1 a0_2 a0_3 a0_4 a0_5 l0_6))) else (roll_Check.j0 k true a0_0 a0_1 a0_2 a0_3 a0_4 a0_5 l0_6)) = some r := H; have A9 := Aside0.mk A90; clear A90
    by_cases c10 : t113 = true
    ·subst c10
     have H1 : ((roll_tone.f a0_3).bind fun t114 => (if t114 = true then ((roll_tone.f a0_4).bind fun t115 => (if t115 = true then ((roll_tone.f a0_5).bind fun t116 => (roll_Check.j0 k (!t116) a0_0 a0_1 a0_2 a0_3 a0_4 a0_5 l0_6)) else (roll_Check.j0 k true a0_0 a0_1 a0_2 a0_3 a0_4 a0_5 l0_6))) else (roll_Check.j0 k true a0_0 a0_1 a0_2 a0_3 a0_4 a0_5 l0_6))) = some r := by rw [if_pos rfl] at H; exact H
     clear H; have H := H1; clear H1; replace H := Option.bind_eq_some_iff.mp H; obtain ⟨t114, A110, H⟩ := H; replace H : (if t114 = true then ((roll_tone.f a0_4).bind fun t115 => (if t115 = true then ((roll_tone.f a0_5).bind fun t116 => (roll_Check.j0 k (!t116) a0_0 a0_1 a0_2 a0_3 a0_4 a0_5 l0_6)) else (roll_Check.j0 k true a0_0 a0_1 a0_2 a0_3 a0_4 a0_5 l0_6))) else (roll_Check.j0 k true a0_0 a0_1 a0_2 a0_3 a0_4 a0_5 l0_6)) = some r := H; have A11 := Aside0.mk A110; clear A110
     by_cases c12 : t114 = true
     ·subst c12
      have H1 : ((roll_tone.f a0_4).bind fun t115 => (if t115 = true then ((roll_tone.f a0_5).bind fun t116 => (roll_Check.j0 k (!t116) a0_0 a0_1 a0_2 a0_3 a0_4 a0_5 l0_6)) else (roll_Check.j0 k true a0_0 a0_1 a0_2 a0_3 a0_4 a0_5 l0_6))) = some r := by rw [if_pos rfl] at H; exact H
      clear H; have H := H1; clear H1; replace H := Option.bind_eq_some_iff.mp H; obtain ⟨t115, A130, H⟩ := H; replace H : (if t115 = true then ((roll_tone.f a0_5).bind fun t116 => (roll_Check.j0 k (!t116) a0_0 a0_1 a0_2 a0_3 a0_4 a0_5 l0_6)) else (roll_Check.j0 k true a0_0 a0_1 a0_2 a0_3 a0_4 a0_5 l0_6)) = some r := H; have A13 := Aside0.mk A130; clear A130
      by_cases c14 : t115 = true
      ·subst c14
       have H1 : ((roll_tone.f a0_5).bind fun t116 => (roll_Check.j0 k (!t116) a0_0 a0_1 a0_2 a0_3 a0_4 a0_5 l0_6)) = some r := by rw [if_pos rfl] at H; exact H
       clear H; have H := H1; clear H1; replace H := Option.bind_eq_some_iff.mp H; obtain ⟨t116, A150, H⟩ := H; replace H : (roll_Check.j0 k (!t116) a0_0 a0_1 a0_2 a0_3 a0_4 a0_5 l0_6) = some r := H; have A15 := Aside0.mk A150; clear A150; have H' := Aside0.mk H; clear H; have hcz16_0 := bc BK110.out 0 (.string a0_0) rfl; have hcz16_1 := bc BK110.out 1 (.int .i64 a0_1) rfl; have hcz16_2 := bc BK110.out 2 (.int .i64 a0_2) rfl; have hcz16_3 := bc BK110.out 3 (.int .i64 a0_3) rfl; have hcz16_4 := bc BK110.out 4 (.int .i64 a0_4) rfl; have hcz16_5 := bc BK110.out 5 (.int .i64 a0_5) rfl; have hcz16_6 := bc BK110.out 6 (.slice A0_6 l0_6.length c0_6) rfl; have hfz16_0 := blk_frozen BK110.out 0; have hfz16_1 := blk_frozen BK110.out 1; have hfz16_2 := blk_frozen BK110.out 2; have hfz16_3 := blk_frozen BK110.out 3; have hfz16_4 := blk_frozen BK110.out 4; have hfz16_5 := blk_frozen BK110.out 5; have hfz16_6 := blk_frozen BK110.out 6
       go_wp2_with (first | ((with_reducible refine gate_callee (f := 24) rfl ?_); refine goesA (some 13) rfl rfl Tryz.func24 (by kernel_rfl) rfl #[.int .i64 a0_2] rfl ?_; (with_reducible refine (roll_size.calls a0_2 true _ A7.out).mono ?_); rintro e w' ⟨rfl, ⟨nd, rfl⟩⟩; refine ⟨_, rfl, ?_⟩) | (go_at_call 24; (with_reducible refine (roll_size.calls a0_1 true _ A9.out).mono ?_); rintro e w' ⟨rfl, ⟨nd, rfl⟩⟩) | (go_at_call 25; (with_reducible refine (roll_tone.calls a0_3 true _ A11.out).mono ?_); rintro e w' ⟨rfl, ⟨nd, rfl⟩⟩) | (go_at_call 25; (with_reducible refine (roll_tone.calls a0_4 true _ A13.out).mono ?_); rintro e w' ⟨rfl, ⟨nd, rfl⟩⟩) | (go_at_call 25; (with_reducible refine (roll_tone.calls a0_5 t116 _ A15.out).mono ?_); rintro e w' ⟨rfl, ⟨nd, rfl⟩⟩))
       go_meet
       case rel => exact ⟨_, (!t116), (by first | rfl | (simp; done) | (simp [*]; done)), H', ⟨by first | omega | exact Nat.le_refl _⟩, ⟨bu (BK110.out)⟩, ⟨be HB.out⟩⟩
      ·replace c14 := Bool.eq_false_iff.mpr c14; subst c14
       have H1 : (roll_Check.j0 k true a0_0 a0_1 a0_2 a0_3 a0_4 a0_5 l0_6) = some r := by rw [if_neg (show ¬ (false = true) by decide)] at H; exact H
       clear H; have H := H1; clear H1; have H' := Aside0.mk H; clear H; have hcz17_0 := bc BK110.out 0 (.string a0_0) rfl; have hcz17_1 := bc BK110.out 1 (.int .i64 a0_1) rfl; have hcz17_2 := bc BK110.out 2 (.int .i64 a0_2) rfl; have hcz17_3 := bc BK110.out 3 (.int .i64 a0_3) rfl; have hcz17_4 := bc BK110.out 4 (.int .i64 a0_4) rfl; have hcz17_5 := bc BK110.out 5 (.int .i64 a0_5) rfl; have hcz17_6 := bc BK110.out 6 (.slice A0_6 l0_6.length c0_6) rfl; have hfz17_0 := blk_frozen BK110.out 0; have hfz17_1 := blk_frozen BK110.out 1; have hfz17_2 := blk_frozen BK110.out 2; have hfz17_3 := blk_frozen BK110.out 3; have hfz17_4 := blk_frozen BK110.out 4; have hfz17_5 := blk_frozen BK110.out 5; have hfz17_6 := blk_frozen BK110.out 6
       go_wp2_with (first | ((with_reducible refine gate_callee (f := 24) rfl ?_); refine goesA (some 13) rfl rfl Tryz.func24 (by kernel_rfl) rfl #[.int .i64 a0_2] rfl ?_; (with_reducible refine (roll_size.calls a0_2 true _ A7.out).mono ?_); rintro e w' ⟨rfl, ⟨nd, rfl⟩⟩; refine ⟨_, rfl, ?_⟩) | (go_at_call 24; (with_reducible refine (roll_size.calls a0_1 true _ A9.out).mono ?_); rintro e w' ⟨rfl, ⟨nd, rfl⟩⟩) | (go_at_call 25; (with_reducible refine (roll_tone.calls a0_3 true _ A11.out).mono ?_); rintro e w' ⟨rfl, ⟨nd, rfl⟩⟩) | (go_at_call 25; (with_reducible refine (roll_tone.calls a0_4 false _ A13.out).mono ?_); rintro e w' ⟨rfl, ⟨nd, rfl⟩⟩))
       go_meet
       case rel => exact ⟨_, (true), (by first | rfl | (simp; done) | (simp [*]; done)), H', ⟨by first | omega | exact Nat.le_refl _⟩, ⟨bu (BK110.out)⟩, ⟨be HB.out⟩⟩
     ·replace c12 := Bool.eq_false_iff.mpr c12; subst c12
      have H1 : (roll_Check.j0 k true a0_0 a0_1 a0_2 a0_3 a0_4 a0_5 l0_6) = some r := by rw [if_neg (show ¬ (false = true) by decide)] at H; exact H
      clear H; have H := H1; clear H1; have H' := Aside0.mk H; clear H; have hcz18_0 := bc BK110.out 0 (.string a0_0) rfl; have hcz18_1 := bc BK110.out 1 (.int .i64 a0_1) rfl; have hcz18_2 := bc BK110.out 2 (.int .i64 a0_2) rfl; have hcz18_3 := bc BK110.out 3 (.int .i64 a0_3) rfl; have hcz18_4 := bc BK110.out 4 (.int .i64 a0_4) rfl; have hcz18_5 := bc BK110.out 5 (.int .i64 a0_5) rfl; have hcz18_6 := bc BK110.out 6 (.slice A0_6 l0_6.length c0_6) rfl; have hfz18_0 := blk_frozen BK110.out 0; have hfz18_1 := blk_frozen BK110.out 1; have hfz18_2 := blk_frozen BK110.out 2; have hfz18_3 := blk_frozen BK110.out 3; have hfz18_4 := blk_frozen BK110.out 4; have hfz18_5 := blk_frozen BK110.out 5; have hfz18_6 := blk_frozen BK110.out 6
      go_wp2_with (first | ((with_reducible refine gate_callee (f := 24) rfl ?_); refine goesA (some 13) rfl rfl Tryz.func24 (by kernel_rfl) rfl #[.int .i64 a0_2] rfl ?_; (with_reducible refine (roll_size.calls a0_2 true _ A7.out).mono ?_); rintro e w' ⟨rfl, ⟨nd, rfl⟩⟩; refine ⟨_, rfl, ?_⟩) | (go_at_call 24; (with_reducible refine (roll_size.calls a0_1 true _ A9.out).mono ?_); rintro e w' ⟨rfl, ⟨nd, rfl⟩⟩) | (go_at_call 25; (with_reducible refine (roll_tone.calls a0_3 false _ A11.out).mono ?_); rintro e w' ⟨rfl, ⟨nd, rfl⟩⟩))
      go_meet
      case rel => exact ⟨_, (true), (by first | rfl | (simp; done) | (simp [*]; done)), H', ⟨by first | omega | exact Nat.le_refl _⟩, ⟨bu (BK110.out)⟩, ⟨be HB.out⟩⟩
    ·replace c10 := Bool.eq_false_iff.mpr c10; subst c10
     have H1 : (roll_Check.j0 k true a0_0 a0_1 a0_2 a0_3 a0_4 a0_5 l0_6) = some r := by rw [if_neg (show ¬ (false = true) by decide)] at H; exact H
     clear H; have H := H1; clear H1; have H' := Aside0.mk H; clear H; have hcz19_0 := bc BK110.out 0 (.string a0_0) rfl; have hcz19_1 := bc BK110.out 1 (.int .i64 a0_1) rfl; have hcz19_2 := bc BK110.out 2 (.int .i64 a0_2) rfl; have hcz19_3 := bc BK110.out 3 (.int .i64 a0_3) rfl; have hcz19_4 := bc BK110.out 4 (.int .i64 a0_4) rfl; have hcz19_5 := bc BK110.out 5 (.int .i64 a0_5) rfl; have hcz19_6 := bc BK110.out 6 (.slice A0_6 l0_6.length c0_6) rfl; have hfz19_0 := blk_frozen BK110.out 0; have hfz19_1 := blk_frozen BK110.out 1; have hfz19_2 := blk_frozen BK110.out 2; have hfz19_3 := blk_frozen BK110.out 3; have hfz19_4 := blk_frozen BK110.out 4; have hfz19_5 := blk_frozen BK110.out 5; have hfz19_6 := blk_frozen BK110.out 6
     go_wp2_with (first | ((with_reducible refine gate_callee (f := 24) rfl ?_); refine goesA (some 13) rfl rfl Tryz.func24 (by kernel_rfl) rfl #[.int .i64 a0_2] rfl ?_; (with_reducible refine (roll_size.calls a0_2 true _ A7.out).mono ?_); rintro e w' ⟨rfl, ⟨nd, rfl⟩⟩; refine ⟨_, rfl, ?_⟩) | (go_at_call 24; (with_reducible refine (roll_size.calls a0_1 false _ A9.out).mono ?_); rintro e w' ⟨rfl, ⟨nd, rfl⟩⟩))
     go_meet
     case rel => exact ⟨_, (true), (by first | rfl | (simp; done) | (simp [*]; done)), H', ⟨by first | omega | exact Nat.le_refl _⟩, ⟨bu (BK110.out)⟩, ⟨be HB.out⟩⟩
   ·replace c8 := Bool.eq_false_iff.mpr c8; subst c8
    have H1 : (roll_Check.j0 k true a0_0 a0_1 a0_2 a0_3 a0_4 a0_5 l0_6) = some r := by rw [if_neg (show ¬ (false = true) by decide)] at H; exact H
    clear H; have H := H1; clear H1; have H' := Aside0.mk H; clear H; have hcz20_0 := bc BK110.out 0 (.string a0_0) rfl; have hcz20_1 := bc BK110.out 1 (.int .i64 a0_1) rfl; have hcz20_2 := bc BK110.out 2 (.int .i64 a0_2) rfl; have hcz20_3 := bc BK110.out 3 (.int .i64 a0_3) rfl; have hcz20_4 := bc BK110.out 4 (.int .i64 a0_4) rfl; have hcz20_5 := bc BK110.out 5 (.int .i64 a0_5) rfl; have hcz20_6 := bc BK110.out 6 (.slice A0_6 l0_6.length c0_6) rfl; have hfz20_0 := blk_frozen BK110.out 0; have hfz20_1 := blk_frozen BK110.out 1; have hfz20_2 := blk_frozen BK110.out 2; have hfz20_3 := blk_frozen BK110.out 3; have hfz20_4 := blk_frozen BK110.out 4; have hfz20_5 := blk_frozen BK110.out 5; have hfz20_6 := blk_frozen BK110.out 6
    go_wp2_with (first | ((with_reducible refine gate_callee (f := 24) rfl ?_); refine goesA (some 13) rfl rfl Tryz.func24 (by kernel_rfl) rfl #[.int .i64 a0_2] rfl ?_; (with_reducible refine (roll_size.calls a0_2 false _ A7.out).mono ?_); rintro e w' ⟨rfl, ⟨nd, rfl⟩⟩; refine ⟨_, rfl, ?_⟩))
    go_meet
    case rel => exact ⟨_, (true), (by first | rfl | (simp; done) | (simp [*]; done)), H', ⟨by first | omega | exact Nat.le_refl _⟩, ⟨bu (BK110.out)⟩, ⟨be HB.out⟩⟩
  case rest =>
   clear HC4
   try clear c1
   try clear c2
   try clear p2
   try clear c3
   try clear c8
   try clear c10
   try clear c11
   try clear c12
   try clear c14
   try clear hcz16_0 hcz16_1 hcz16_2 hcz16_3 hcz16_4 hcz16_5 hcz16_6
   try clear hcz17_0 hcz17_1 hcz17_2 hcz17_3 hcz17_4 hcz17_5 hcz17_6
   try clear hcz18_0 hcz18_1 hcz18_2 hcz18_3 hcz18_4 hcz18_5 hcz18_6
   try clear hcz19_0 hcz19_1 hcz19_2 hcz19_3 hcz19_4 hcz19_5 hcz19_6
   try clear hcz20_0 hcz20_1 hcz20_2 hcz20_3 hcz20_4 hcz20_5 hcz20_6
   try clear hcz6_0 hcz6_1 hcz6_2 hcz6_3 hcz6_4 hcz6_5 hcz6_6
   try clear hfz16_0 hfz16_1 hfz16_2 hfz16_3 hfz16_4 hfz16_5 hfz16_6
   try clear hfz17_0 hfz17_1 hfz17_2 hfz17_3 hfz17_4 hfz17_5 hfz17_6
   try clear hfz18_0 hfz18_1 hfz18_2 hfz18_3 hfz18_4 hfz18_5 hfz18_6
   try clear hfz19_0 hfz19_1 hfz19_2 hfz19_3 hfz19_4 hfz19_5 hfz19_6
   try clear hfz20_0 hfz20_1 hfz20_2 hfz20_3 hfz20_4 hfz20_5 hfz20_6
   try clear hfz6_0 hfz6_1 hfz6_2 hfz6_3 hfz6_4 hfz6_5 hfz6_6
   obtain ⟨kq, x10_3, rfl, HA, HJ3, BK110, HB⟩ := hcut
   cases kq with
   | zero => exact absurd HA.out (by simp [roll_Check.j0])
   | succ kj3 =>
    have H := HA.out; clear HA; simp only [roll_Check.j0] at H
    by_cases c21 : x10_3 = true
    ·subst c21
     have H1 : (some 3) = some r := by rw [if_pos rfl] at H; exact H
     clear H; have H := H1; clear H1; obtain rfl := Option.some.inj H
     go_wp2
     go_ret
     exact ⟨by first | rfl | (simp [errW_none, errW_some] <;> rfl) | (simp [*, errW_none, errW_some] <;> rfl), be HB.out⟩
    ·replace c21 := Bool.eq_false_iff.mpr c21; subst c21
     have H1 : (if (l0_6.length : Int) > 20 then (some 5) else (roll_Check.l0 kj3 l0_6 (l0_6.length : Int) 0 a0_0 a0_1 a0_2 a0_3 a0_4 a0_5 l0_6)) = some r := by rw [if_neg (show ¬ (false = true) by decide)] at H; exact H
     clear H; have H := H1; clear H1
     by_cases c22 : (l0_6.length : Int) > 20
     ·rw [if_pos c22] at H; have c22b0 : decide (20 < (l0_6.length : Int)) = true := decide_eq_true c22; have c22b1 : decide (20 < l0_6.length) = true := decide_eq_true (by omega); clear c22; obtain rfl := Option.some.inj H; have hcz23_0 := bc BK110.out 0 (.string a0_0) rfl; have hcz23_1 := bc BK110.out 1 (.int .i64 a0_1) rfl; have hcz23_2 := bc BK110.out 2 (.int .i64 a0_2) rfl; have hcz23_3 := bc BK110.out 3 (.int .i64 a0_3) rfl; have hcz23_4 := bc BK110.out 4 (.int .i64 a0_4) rfl; have hcz23_5 := bc BK110.out 5 (.int .i64 a0_5) rfl; have hcz23_6 := bc BK110.out 6 (.slice A0_6 l0_6.length c0_6) rfl; have hfz23_0 := blk_frozen BK110.out 0; have hfz23_1 := blk_frozen BK110.out 1; have hfz23_2 := blk_frozen BK110.out 2; have hfz23_3 := blk_frozen BK110.out 3; have hfz23_4 := blk_frozen BK110.out 4; have hfz23_5 := blk_frozen BK110.out 5; have hfz23_6 := blk_frozen BK110.out 6
      go_wp2
      go_ret
      exact ⟨by first | rfl | (simp [errW_none, errW_some] <;> rfl) | (simp [*, errW_none, errW_some] <;> rfl), be HB.out⟩
     ·rw [if_neg c22] at H; have c22b0 : decide (20 < (l0_6.length : Int)) = false := decide_eq_false c22; have c22b1 : decide (20 < l0_6.length) = false := decide_eq_false (by omega); clear c22; have H' := Aside0.mk H; clear H; have hcz24_0 := bc BK110.out 0 (.string a0_0) rfl; have hcz24_1 := bc BK110.out 1 (.int .i64 a0_1) rfl; have hcz24_2 := bc BK110.out 2 (.int .i64 a0_2) rfl; have hcz24_3 := bc BK110.out 3 (.int .i64 a0_3) rfl; have hcz24_4 := bc BK110.out 4 (.int .i64 a0_4) rfl; have hcz24_5 := bc BK110.out 5 (.int .i64 a0_5) rfl; have hcz24_6 := bc BK110.out 6 (.slice A0_6 l0_6.length c0_6) rfl; have hfz24_0 := blk_frozen BK110.out 0; have hfz24_1 := blk_frozen BK110.out 1; have hfz24_2 := blk_frozen BK110.out 2; have hfz24_3 := blk_frozen BK110.out 3; have hfz24_4 := blk_frozen BK110.out 4; have hfz24_5 := blk_frozen BK110.out 5; have hfz24_6 := blk_frozen BK110.out 6
      go_wp2
      go_loopg [50] kj3 (fun kq v50 w' => ∃ (x50_2 : Int), v50 = .int .i64 x50_2 ∧ Aside0 (roll_Check.l0 kq l0_6 (l0_6.length : Int) x50_2 a0_0 a0_1 a0_2 a0_3 a0_4 a0_5 l0_6 = some r) ∧ Aside0 (kq ≤ kj3) ∧ Aside0 (w'.heap[gb110]? = some (.cells #[.string a0_0, .int .i64 a0_1, .int .i64 a0_2, .int .i64 a0_3, .int .i64 a0_4, .int .i64 a0_5, (.slice A0_6 l0_6.length c0_6)] 26 (0, 0))) ∧ Aside0 (Below w.heap.size w w'))
      case atStart => exact ⟨(0), (by first | rfl | (simp; done) | (simp [*]; done)), H', ⟨Nat.le_refl _⟩, ⟨bu (BK110.out)⟩, ⟨be HB.out⟩⟩
      case round =>
       clear H'
       try clear c1
       try clear c2
       try clear p2
       try clear c3
       try clear c8
       try clear c10
       try clear c11
       try clear c12
       try clear c14
       try clear c21
       try clear c22
       try clear c22b0
       try clear c22b1
       try clear c23
       try clear c24
       try clear hcz16_0 hcz16_1 hcz16_2 hcz16_3 hcz16_4 hcz16_5 hcz16_6
       try clear hcz17_0 hcz17_1 hcz17_2 hcz17_3 hcz17_4 hcz17_5 hcz17_6
       try clear hcz18_0 hcz18_1 hcz18_2 hcz18_3 hcz18_4 hcz18_5 hcz18_6
       try clear hcz19_0 hcz19_1 hcz19_2 hcz19_3 hcz19_4 hcz19_5 hcz19_6
       try clear hcz20_0 hcz20_1 hcz20_2 hcz20_3 hcz20_4 hcz20_5 hcz20_6
       try clear hcz23_0 hcz23_1 hcz23_2 hcz23_3 hcz23_4 hcz23_5 hcz23_6
       try clear hcz24_0 hcz24_1 hcz24_2 hcz24_3 hcz24_4 hcz24_5 hcz24_6
       try clear hcz6_0 hcz6_1 hcz6_2 hcz6_3 hcz6_4 hcz6_5 hcz6_6
       try clear hfz16_0 hfz16_1 hfz16_2 hfz16_3 hfz16_4 hfz16_5 hfz16_6
       try clear hfz17_0 hfz17_1 hfz17_2 hfz17_3 hfz17_4 hfz17_5 hfz17_6
       try clear hfz18_0 hfz18_1 hfz18_2 hfz18_3 hfz18_4 hfz18_5 hfz18_6
       try clear hfz19_0 hfz19_1 hfz19_2 hfz19_3 hfz19_4 hfz19_5 hfz19_6
       try clear hfz20_0 hfz20_1 hfz20_2 hfz20_3 hfz20_4 hfz20_5 hfz20_6
       try clear hfz23_0 hfz23_1 hfz23_2 hfz23_3 hfz23_4 hfz23_5 hfz23_6
       try clear hfz24_0 hfz24_1 hfz24_2 hfz24_3 hfz24_4 hfz24_5 hfz24_6
       try clear hfz6_0 hfz6_1 hfz6_2 hfz6_3 hfz6_4 hfz6_5 hfz6_6
       try clear p2
       obtain ⟨x50_2, rfl, HA, HK2, BK110, HB⟩ := hrel
       cases gk with
       | zero => exact absurd HA.out (by simp [roll_Check.l0])
       | succ k2 =>
        have H := HA.out; clear HA; simp only [roll_Check.l0] at H
        by_cases c25 : x50_2 < (l0_6.length : Int)
        ·rw [if_pos c25] at H; have c25b0 : decide (x50_2 < (l0_6.length : Int)) = true := decide_eq_true c25; clear c25
         by_cases c26 : 0 ≤ x50_2
         ·rw [if_pos c26] at H; have c26b0 : decide (0 ≤ x50_2) = true := decide_eq_true c26; clear c26
          by_cases c27 : x50_2 < (l0_6.length : Int)
          ·rw [if_pos c27] at H; have c27b0 : decide (x50_2 < (l0_6.length : Int)) = true := decide_eq_true c27; clear c27; have HC28 := Aside0.mk H; clear H; have p117 : 0 ≤ (x50_2 : Int) := oda; have q117 : x50_2 < (l0_6.length : Int) := oda; obtain ⟨ad117, e117, hx117_0, hx117_1, hx117_2, hx117_3⟩ := at_T46 HR0_6.out x50_2 p117 q117; cases e117; replace hx117_0 := (HB.out.cell (World.block_lt_of_cell? w _ hx117_0)).trans hx117_0; replace hx117_1 := (HB.out.cell (World.block_lt_of_cell? w _ hx117_1)).trans hx117_1; replace hx117_2 := (HB.out.cell (World.block_lt_of_cell? w _ hx117_2)).trans hx117_2; replace hx117_3 := (HB.out.cell (World.block_lt_of_cell? w _ hx117_3)).trans hx117_3; replace p117 := eq_true p117; replace q117 := eq_true q117
           go_upto_region 10 with (first | ((with_reducible refine gate_dst (N := 4) rfl ?_); refine box_event ?hg (N := 4) ?hd (cs := #[.int .i64 0, .int .i64 0, .int .i64 0, .int .i64 0]) (t := 46) ?hr ?_; (case hd => rfl); (case hg => rfl); (case hr => first | (go_simp; done) | (go_simp; rfl)); intro gb118 hg w29 hbox hb; have BK118 := Aside0.mk (hbox); have GW118 := Aside0.mk ((by rw [hg]; exact (below_size (be HB.out)) : w.heap.size ≤ gb118)); have GE118 := Aside0.mk ((by rw [hg]; exact (below_size (be HB.out)) : w.heap.size ≤ gb118)); have NB110_118 := Aside0.mk ((by rw [hg]; exact Nat.ne_of_lt (blk_lt (g := gb110) (o := .cells #[.string a0_0, .int .i64 a0_1, .int .i64 a0_2, .int .i64 a0_3, .int .i64 a0_4, .int .i64 a0_5, .slice (some ad117) l0_6.length c0_6] 26 (0, 0)) (bu BK110.out)) : gb110 ≠ gb118)); have NB118_110 := Aside0.mk ((by rw [hg]; exact Nat.ne_of_gt (blk_lt (g := gb110) (o := .cells #[.string a0_0, .int .i64 a0_1, .int .i64 a0_2, .int .i64 a0_3, .int .i64 a0_4, .int .i64 a0_5, .slice (some ad117) l0_6.length c0_6] 26 (0, 0)) (bu BK110.out)) : gb118 ≠ gb110)); replace BK110 := Aside0.mk (blk_below (bu BK110.out) hb); replace HB := Aside0.mk (below_step (be HB.out) hb); clear hb hbox hg; have hnb30 := NB118_110.out; have hnc30 := NB110_118.out; have hcz31_0 := bc BK118.out 0 (.int .i64 0) rfl; have hcz31_1 := bc BK118.out 1 (.int .i64 0) rfl; have hcz31_2 := bc BK118.out 2 (.int .i64 0) rfl; have hcz31_3 := bc BK118.out 3 (.int .i64 0) rfl; have hfz31_0 := blk_frozen BK118.out 0; have hfz31_1 := blk_frozen BK118.out 1; have hfz31_2 := blk_frozen BK118.out 2; have hfz31_3 := blk_frozen BK118.out 3))
           (try simp only [Act.put, List.setIfInBounds_toArray, List.set_cons_zero, List.set_cons_succ])
           go_cut [71] (fun v71 wc => ∃ (kq : Nat) (x71_27 : Bool), v71 = .bool x71_27 ∧ Aside0 (roll_Check.j2 kq l0_6 (l0_6.length : Int) x50_2 x71_27 a0_0 a0_1 a0_2 a0_3 a0_4 a0_5 l0_6 = some r) ∧ Aside0 (kq ≤ k2) ∧ Aside0 (wc.heap[gb110]? = some (.cells #[.string a0_0, .int .i64 a0_1, .int .i64 a0_2, .int .i64 a0_3, .int .i64 a0_4, .int .i64 a0_5, (.slice (some ad117) l0_6.length c0_6)] 26 (0, 0))) ∧ Aside0 (wc.heap[gb118]? = some (.cells #[.int .i64 ((rd_T46 l0_6 x50_2).f0), .int .i64 ((rd_T46 l0_6 x50_2).f1), .int .i64 ((rd_T46 l0_6 x50_2).f2), .int .i64 ((rd_T46 l0_6 x50_2).f3)] 46 (0, 0))) ∧ Aside0 (Below w.heap.size w wc))
           case first =>
            have H := HC28.out; clear HC28; replace H := Option.bind_eq_some_iff.mp H; obtain ⟨t119, A320, H⟩ := H; replace H : (if t119 = true then ((roll_within.f ((rd_T46 l0_6 x50_2).f1) ((rd_T46 l0_6 x50_2).f3) a0_1).bind fun t120 => (roll_Check.j2 k2 l0_6 (l0_6.length : Int) x50_2 (!t120) a0_0 a0_1 a0_2 a0_3 a0_4 a0_5 l0_6)) else (roll_Check.j2 k2 l0_6 (l0_6.length : Int) x50_2 true a0_0 a0_1 a0_2 a0_3 a0_4 a0_5 l0_6)) = some r := H; have A32 := Aside0.mk A320; clear A320
            by_cases c33 : t119 = true
            ·subst c33
             have H1 : ((roll_within.f ((rd_T46 l0_6 x50_2).f1) ((rd_T46 l0_6 x50_2).f3) a0_1).bind fun t120 => (roll_Check.j2 k2 l0_6 (l0_6.length : Int) x50_2 (!t120) a0_0 a0_1 a0_2 a0_3 a0_4 a0_5 l0_6)) = some r := by rw [if_pos rfl] at H; exact H
             clear H; have H := H1; clear H1; replace H := Option.bind_eq_some_iff.mp H; obtain ⟨t120, A340, H⟩ := H; replace H : (roll_Check.j2 k2 l0_6 (l0_6.length : Int) x50_2 (!t120) a0_0 a0_1 a0_2 a0_3 a0_4 a0_5 l0_6) = some r := H; have A34 := Aside0.mk A340; clear A340; have H' := Aside0.mk H; clear H; have hnb35 := NB118_110.out; have hnc35 := NB110_118.out; have hcz36_0 := bc BK118.out 0 (.int .i64 0) rfl; have hcz36_1 := bc BK118.out 1 (.int .i64 0) rfl; have hcz36_2 := bc BK118.out 2 (.int .i64 0) rfl; have hcz36_3 := bc BK118.out 3 (.int .i64 0) rfl; have hfz36_0 := blk_frozen BK118.out 0; have hfz36_1 := blk_frozen BK118.out 1; have hfz36_2 := blk_frozen BK118.out 2; have hfz36_3 := blk_frozen BK118.out 3; have hcz37_0 := bc BK110.out 0 (.string a0_0) rfl; have hcz37_1 := bc BK110.out 1 (.int .i64 a0_1) rfl; have hcz37_2 := bc BK110.out 2 (.int .i64 a0_2) rfl; have hcz37_3 := bc BK110.out 3 (.int .i64 a0_3) rfl; have hcz37_4 := bc BK110.out 4 (.int .i64 a0_4) rfl; have hcz37_5 := bc BK110.out 5 (.int .i64 a0_5) rfl; have hcz37_6 := bc BK110.out 6 (.slice (some ad117) l0_6.length c0_6) rfl; have hfz37_0 := blk_frozen BK110.out 0; have hfz37_1 := blk_frozen BK110.out 1; have hfz37_2 := blk_frozen BK110.out 2; have hfz37_3 := blk_frozen BK110.out 3; have hfz37_4 := blk_frozen BK110.out 4; have hfz37_5 := blk_frozen BK110.out 5; have hfz37_6 := blk_frozen BK110.out 6
             go_wp2_with (first | ((with_reducible refine gate_callee (f := 26) rfl ?_); refine goesA (some 60) rfl rfl Tryz.func26 (by kernel_rfl) rfl #[.int .i64 ((rd_T46 l0_6 x50_2).f0), .int .i64 ((rd_T46 l0_6 x50_2).f2), .int .i64 a0_2] rfl ?_; (with_reducible refine (roll_within.calls ((rd_T46 l0_6 x50_2).f0) ((rd_T46 l0_6 x50_2).f2) a0_2 true _ A32.out).mono ?_); rintro e w' ⟨rfl, ⟨nd, rfl⟩⟩; refine ⟨_, rfl, ?_⟩) | (go_at_call 26; (with_reducible refine (roll_within.calls ((rd_T46 l0_6 x50_2).f1) ((rd_T46 l0_6 x50_2).f3) a0_1 t120 _ A34.out).mono ?_); rintro e w' ⟨rfl, ⟨nd, rfl⟩⟩))
             go_meet
             case rel => exact ⟨_, (!t120), (by first | rfl | (simp; done) | (simp [*]; done)), H', ⟨by have := HJ3.out; have := HK2.out; first | omega | exact Nat.le_refl _⟩, ⟨by (with_reducible repeat (first | refine blk_drewN ?_ _ | refine blk_drew ?_ | refine blk_alloc ?_ _)); refine blk_far ?_ NB110_118.out _; (with_reducible repeat (first | refine blk_drewN ?_ _ | refine blk_drew ?_ | refine blk_alloc ?_ _)); refine blk_far ?_ NB110_118.out _; (with_reducible repeat (first | refine blk_drewN ?_ _ | refine blk_drew ?_ | refine blk_alloc ?_ _)); refine blk_far ?_ NB110_118.out _; (with_reducible repeat (first | refine blk_drewN ?_ _ | refine blk_drew ?_ | refine blk_alloc ?_ _)); refine blk_far ?_ NB110_118.out _; (with_reducible repeat (first | refine blk_drewN ?_ _ | refine blk_drew ?_ | refine blk_alloc ?_ _)); exact BK110.out⟩, ⟨by (with_reducible repeat (first | refine blk_drewN ?_ _ | refine blk_drew ?_ | refine blk_alloc ?_ _)); refine blk_put (cs := #[.int .i64 ((rd_T46 l0_6 x50_2).f0), .int .i64 ((rd_T46 l0_6 x50_2).f1), .int .i64 ((rd_T46 l0_6 x50_2).f2), .int .i64 0]) ?_ 3 _ rfl; (with_reducible repeat (first | refine blk_drewN ?_ _ | refine blk_drew ?_ | refine blk_alloc ?_ _)); refine blk_put (cs := #[.int .i64 ((rd_T46 l0_6 x50_2).f0), .int .i64 ((rd_T46 l0_6 x50_2).f1), .int .i64 0, .int .i64 0]) ?_ 2 _ rfl; (with_reducible repeat (first | refine blk_drewN ?_ _ | refine blk_drew ?_ | refine blk_alloc ?_ _)); refine blk_put (cs := #[.int .i64 ((rd_T46 l0_6 x50_2).f0), .int .i64 0, .int .i64 0, .int .i64 0]) ?_ 1 _ rfl; (with_reducible repeat (first | refine blk_drewN ?_ _ | refine blk_drew ?_ | refine blk_alloc ?_ _)); refine blk_put (cs := #[.int .i64 0, .int .i64 0, .int .i64 0, .int .i64 0]) ?_ 0 _ rfl; (with_reducible repeat (first | refine blk_drewN ?_ _ | refine blk_drew ?_ | refine blk_alloc ?_ _)); exact BK118.out⟩, ⟨be HB.out⟩⟩
            ·replace c33 := Bool.eq_false_iff.mpr c33; subst c33
             have H1 : (roll_Check.j2 k2 l0_6 (l0_6.length : Int) x50_2 true a0_0 a0_1 a0_2 a0_3 a0_4 a0_5 l0_6) = some r := by rw [if_neg (show ¬ (false = true) by decide)] at H; exact H
             clear H; have H := H1; clear H1; have H' := Aside0.mk H; clear H; have hnb38 := NB118_110.out; have hnc38 := NB110_118.out; have hcz39_0 := bc BK118.out 0 (.int .i64 0) rfl; have hcz39_1 := bc BK118.out 1 (.int .i64 0) rfl; have hcz39_2 := bc BK118.out 2 (.int .i64 0) rfl; have hcz39_3 := bc BK118.out 3 (.int .i64 0) rfl; have hfz39_0 := blk_frozen BK118.out 0; have hfz39_1 := blk_frozen BK118.out 1; have hfz39_2 := blk_frozen BK118.out 2; have hfz39_3 := blk_frozen BK118.out 3; have hcz40_0 := bc BK110.out 0 (.string a0_0) rfl; have hcz40_1 := bc BK110.out 1 (.int .i64 a0_1) rfl; have hcz40_2 := bc BK110.out 2 (.int .i64 a0_2) rfl; have hcz40_3 := bc BK110.out 3 (.int .i64 a0_3) rfl; have hcz40_4 := bc BK110.out 4 (.int .i64 a0_4) rfl; have hcz40_5 := bc BK110.out 5 (.int .i64 a0_5) rfl; have hcz40_6 := bc BK110.out 6 (.slice (some ad117) l0_6.length c0_6) rfl; have hfz40_0 := blk_frozen BK110.out 0; have hfz40_1 := blk_frozen BK110.out 1; have hfz40_2 := blk_frozen BK110.out 2; have hfz40_3 := blk_frozen BK110.out 3; have hfz40_4 := blk_frozen BK110.out 4; have hfz40_5 := blk_frozen BK110.out 5; have hfz40_6 := blk_frozen BK110.out 6
             go_wp2_with (first | ((with_reducible refine gate_callee (f := 26) rfl ?_); refine goesA (some 60) rfl rfl Tryz.func26 (by kernel_rfl) rfl #[.int .i64 ((rd_T46 l0_6 x50_2).f0), .int .i64 ((rd_T46 l0_6 x50_2).f2), .int .i64 a0_2] rfl ?_; (with_reducible refine (roll_within.calls ((rd_T46 l0_6 x50_2).f0) ((rd_T46 l0_6 x50_2).f2) a0_2 false _ A32.out).mono ?_); rintro e w' ⟨rfl, ⟨nd, rfl⟩⟩; refine ⟨_, rfl, ?_⟩))
             go_meet
             case rel => exact ⟨_, (true), (by first | rfl | (simp; done) | (simp [*]; done)), H', ⟨by have := HJ3.out; have := HK2.out; first | omega | exact Nat.le_refl _⟩, ⟨by (with_reducible repeat (first | refine blk_drewN ?_ _ | refine blk_drew ?_ | refine blk_alloc ?_ _)); refine blk_far ?_ NB110_118.out _; (with_reducible repeat (first | refine blk_drewN ?_ _ | refine blk_drew ?_ | refine blk_alloc ?_ _)); refine blk_far ?_ NB110_118.out _; (with_reducible repeat (first | refine blk_drewN ?_ _ | refine blk_drew ?_ | refine blk_alloc ?_ _)); refine blk_far ?_ NB110_118.out _; (with_reducible repeat (first | refine blk_drewN ?_ _ | refine blk_drew ?_ | refine blk_alloc ?_ _)); refine blk_far ?_ NB110_118.out _; (with_reducible repeat (first | refine blk_drewN ?_ _ | refine blk_drew ?_ | refine blk_alloc ?_ _)); exact BK110.out⟩, ⟨by (with_reducible repeat (first | refine blk_drewN ?_ _ | refine blk_drew ?_ | refine blk_alloc ?_ _)); refine blk_put (cs := #[.int .i64 ((rd_T46 l0_6 x50_2).f0), .int .i64 ((rd_T46 l0_6 x50_2).f1), .int .i64 ((rd_T46 l0_6 x50_2).f2), .int .i64 0]) ?_ 3 _ rfl; (with_reducible repeat (first | refine blk_drewN ?_ _ | refine blk_drew ?_ | refine blk_alloc ?_ _)); refine blk_put (cs := #[.int .i64 ((rd_T46 l0_6 x50_2).f0), .int .i64 ((rd_T46 l0_6 x50_2).f1), .int .i64 0, .int .i64 0]) ?_ 2 _ rfl; (with_reducible repeat (first | refine blk_drewN ?_ _ | refine blk_drew ?_ | refine blk_alloc ?_ _)); refine blk_put (cs := #[.int .i64 ((rd_T46 l0_6 x50_2).f0), .int .i64 0, .int .i64 0, .int .i64 0]) ?_ 1 _ rfl; (with_reducible repeat (first | refine blk_drewN ?_ _ | refine blk_drew ?_ | refine blk_alloc ?_ _)); refine blk_put (cs := #[.int .i64 0, .int .i64 0, .int .i64 0, .int .i64 0]) ?_ 0 _ rfl; (with_reducible repeat (first | refine blk_drewN ?_ _ | refine blk_drew ?_ | refine blk_alloc ?_ _)); exact BK118.out⟩, ⟨be HB.out⟩⟩
           case rest =>
            clear HC28
            try clear c1
            try clear p1
            try clear q1
            try clear hx1
            try clear c2
            try clear p2
            try clear c3
            try clear c8
            try clear c10
            try clear c11
            try clear p11
            try clear q11
            try clear hx11
            try clear c12
            try clear c14
            try clear c21
            try clear c22
            try clear c22b0
            try clear c22b1
            try clear c23
            try clear c24
            try clear c25
            try clear c25b0
            try clear c26
            try clear c26b0
            try clear c27
            try clear c27b0
            try clear c30
            try clear c33
            try clear c35
            try clear c38
            try clear hcz16_0 hcz16_1 hcz16_2 hcz16_3 hcz16_4 hcz16_5 hcz16_6
            try clear hcz17_0 hcz17_1 hcz17_2 hcz17_3 hcz17_4 hcz17_5 hcz17_6
            try clear hcz18_0 hcz18_1 hcz18_2 hcz18_3 hcz18_4 hcz18_5 hcz18_6
            try clear hcz19_0 hcz19_1 hcz19_2 hcz19_3 hcz19_4 hcz19_5 hcz19_6
            try clear hcz20_0 hcz20_1 hcz20_2 hcz20_3 hcz20_4 hcz20_5 hcz20_6
            try clear hcz23_0 hcz23_1 hcz23_2 hcz23_3 hcz23_4 hcz23_5 hcz23_6
            try clear hcz24_0 hcz24_1 hcz24_2 hcz24_3 hcz24_4 hcz24_5 hcz24_6
            try clear hcz31_0 hcz31_1 hcz31_2 hcz31_3
            try clear hcz36_0 hcz36_1 hcz36_2 hcz36_3
            try clear hcz37_0 hcz37_1 hcz37_2 hcz37_3 hcz37_4 hcz37_5 hcz37_6
            try clear hcz39_0 hcz39_1 hcz39_2 hcz39_3
            try clear hcz40_0 hcz40_1 hcz40_2 hcz40_3 hcz40_4 hcz40_5 hcz40_6
            try clear hcz6_0 hcz6_1 hcz6_2 hcz6_3 hcz6_4 hcz6_5 hcz6_6
            try clear hfz16_0 hfz16_1 hfz16_2 hfz16_3 hfz16_4 hfz16_5 hfz16_6
            try clear hfz17_0 hfz17_1 hfz17_2 hfz17_3 hfz17_4 hfz17_5 hfz17_6
            try clear hfz18_0 hfz18_1 hfz18_2 hfz18_3 hfz18_4 hfz18_5 hfz18_6
            try clear hfz19_0 hfz19_1 hfz19_2 hfz19_3 hfz19_4 hfz19_5 hfz19_6
            try clear hfz20_0 hfz20_1 hfz20_2 hfz20_3 hfz20_4 hfz20_5 hfz20_6
            try clear hfz23_0 hfz23_1 hfz23_2 hfz23_3 hfz23_4 hfz23_5 hfz23_6
            try clear hfz24_0 hfz24_1 hfz24_2 hfz24_3 hfz24_4 hfz24_5 hfz24_6
            try clear hfz31_0 hfz31_1 hfz31_2 hfz31_3
            try clear hfz36_0 hfz36_1 hfz36_2 hfz36_3
            try clear hfz37_0 hfz37_1 hfz37_2 hfz37_3 hfz37_4 hfz37_5 hfz37_6
            try clear hfz39_0 hfz39_1 hfz39_2 hfz39_3
            try clear hfz40_0 hfz40_1 hfz40_2 hfz40_3 hfz40_4 hfz40_5 hfz40_6
            try clear hfz6_0 hfz6_1 hfz6_2 hfz6_3 hfz6_4 hfz6_5 hfz6_6
            try clear hx117_0
            try clear hx117_1
            try clear hx117_2
            try clear hx117_3
            try clear p117
            try clear p2
            try clear q117
            obtain ⟨kq, x71_27, rfl, HA, HJ27, BK110, BK118, HB⟩ := hcut
            cases kq with
            | zero => exact absurd HA.out (by simp [roll_Check.j2])
            | succ kj27 =>
             have H := HA.out; clear HA; simp only [roll_Check.j2] at H
             by_cases c41 : x71_27 = true
             ·subst c41
              have H1 : (some 3) = some r := by rw [if_pos rfl] at H; exact H
              clear H; have H := H1; clear H1; obtain rfl := Option.some.inj H
              go_wp2
              go_ret
              exact ⟨by first | rfl | (simp [errW_none, errW_some] <;> rfl) | (simp [*, errW_none, errW_some] <;> rfl), be HB.out⟩
             ·replace c41 := Bool.eq_false_iff.mpr c41; subst c41
              have H1 : (roll_Check.l0 kj27 l0_6 (l0_6.length : Int) (wrap64 (x50_2 + 1)) a0_0 a0_1 a0_2 a0_3 a0_4 a0_5 l0_6) = some r := by rw [if_neg (show ¬ (false = true) by decide)] at H; exact H
              clear H; have H := H1; clear H1; have H' := Aside0.mk H; clear H
              go_wp2
              go_roundg kj27
              case measure => have := HJ3.out; have := HK2.out; have := HJ27.out; omega
              case rel => exact ⟨(wrap64 (x50_2 + 1)), (by first | rfl | (simp; done) | (simp [*]; done)), H', ⟨by have := HJ3.out; have := HK2.out; have := HJ27.out; omega⟩, ⟨bu (BK110.out)⟩, ⟨be HB.out⟩⟩
          ·rw [if_neg c27] at H; exact absurd H (by simp)
         ·rw [if_neg c26] at H; exact absurd H (by simp)
        ·rw [if_neg c25] at H; have c25b0 : decide (x50_2 < (l0_6.length : Int)) = false := decide_eq_false c25; clear c25; obtain rfl := Option.some.inj H
         go_wp2
         go_ret
         exact ⟨by first | rfl | (simp [errW_none, errW_some] <;> rfl) | (simp [*, errW_none, errW_some] <;> rfl), be HB.out⟩
 ·replace c3 := Bool.eq_false_iff.mpr c3; subst c3
  have H1 : (some 1) = some r := by rw [if_neg (show ¬ (false = true) by decide)] at H; exact H
  clear H; have H := H1; clear H1; obtain rfl := Option.some.inj H
  go_enter Tryz.func11, Tryz.ntmps11
  go_wp2_with (first | ((with_reducible refine gate_dst (N := 1) rfl ?_); refine box_event ?hg (N := 1) ?hd (cs := #[.string a0_0, .int .i64 a0_1, .int .i64 a0_2, .int .i64 a0_3, .int .i64 a0_4, .int .i64 a0_5, .slice A0_6 l0_6.length c0_6]) (t := 26) ?hr ?_; (case hd => rfl); (case hg => rfl); (case hr => first | (go_simp; done) | (go_simp; rfl)); intro gb110 hg w42 hbox hb; have BK110 := Aside0.mk (hbox); have GW110 := Aside0.mk ((by rw [hg]; exact (below_size (be HB.out)) : w.heap.size ≤ gb110)); have GE110 := Aside0.mk ((by rw [hg]; exact (below_size (be HB.out)) : w.heap.size ≤ gb110)); replace HB := Aside0.mk (below_step (be HB.out) hb); clear hb hbox hg; have hcz43_0 := bc BK110.out 0 (.string a0_0) rfl; have hcz43_1 := bc BK110.out 1 (.int .i64 a0_1) rfl; have hcz43_2 := bc BK110.out 2 (.int .i64 a0_2) rfl; have hcz43_3 := bc BK110.out 3 (.int .i64 a0_3) rfl; have hcz43_4 := bc BK110.out 4 (.int .i64 a0_4) rfl; have hcz43_5 := bc BK110.out 5 (.int .i64 a0_5) rfl; have hcz43_6 := bc BK110.out 6 (.slice A0_6 l0_6.length c0_6) rfl; have hfz43_0 := blk_frozen BK110.out 0; have hfz43_1 := blk_frozen BK110.out 1; have hfz43_2 := blk_frozen BK110.out 2; have hfz43_3 := blk_frozen BK110.out 3; have hfz43_4 := blk_frozen BK110.out 4; have hfz43_5 := blk_frozen BK110.out 5; have hfz43_6 := blk_frozen BK110.out 6) | ((with_reducible refine gate_callee (f := 23) rfl ?_); refine goesA (some 8) rfl rfl Tryz.func23 (by kernel_rfl) rfl #[.string a0_0] rfl ?_; (with_reducible refine (roll_named.calls k a0_0 false _ A2.out).mono ?_); rintro e w' ⟨rfl, ⟨nd, rfl⟩⟩; refine ⟨_, rfl, ?_⟩))
  go_ret
  exact ⟨by first | rfl | (simp [errW_none, errW_some] <;> rfl) | (simp [*, errW_none, errW_some] <;> rfl), be HB.out⟩

end Go.Proofs.YtdblkmnbkpphjaaGreatDoor.P
namespace Go.Proofs.YtdblkmnbkpphjaaGreatDoor.P
open Go.RowKit Go.Proofs.YtdblkmnbkpphjaaGreatDoorW.PrintWords Go.Proofs.YtdblkmnbkpphjaaGreatDoorW.PrintLast Go.Proofs.YtdblkmnbkpphjaaGreatDoorW.PrintMore Go.Proofs.YtdblkmnbkpphjaaGreatDoorW.PrintAuto
attribute [local go_sem] max2_int min2_int max_two min_two max_three min_three max_four min_four   -- for this text's walks alone
set_option linter.unusedVariables false
set_option linter.unusedSimpArgs false

def cmp_isNaN_int.f (a0 : Int) : Option (Bool) := some (a0 != a0)
set_option maxHeartbeats 8000000 in
set_option maxRecDepth 100000 in
theorem cmp_isNaN_int.calls (a0 : Int) (r : Bool) (w : World) (h : cmp_isNaN_int.f a0 = some r) :
  Calls Tryz.prog 56 #[.int .i64 a0] w fun e w' => e = .returned (.bool r) ∧ Drawn0 w w' := by
 have H : (some (a0 != a0)) = some r := h; clear h; obtain rfl := Option.some.inj H
 go_enter Tryz.func56, Tryz.ntmps56
 go_wp2
 go_ret
 exact ⟨by first | rfl | (simp; done) | (simp [*]; done), by repeat (first | exact Drawn0.refl _ | apply Drawn0.step)⟩

end Go.Proofs.YtdblkmnbkpphjaaGreatDoor.P
namespace Go.Proofs.YtdblkmnbkpphjaaGreatDoor.P
open Go.RowKit Go.Proofs.YtdblkmnbkpphjaaGreatDoorW.PrintWords Go.Proofs.YtdblkmnbkpphjaaGreatDoorW.PrintLast Go.Proofs.YtdblkmnbkpphjaaGreatDoorW.PrintMore Go.Proofs.YtdblkmnbkpphjaaGreatDoorW.PrintAuto
attribute [local go_sem] max2_int min2_int max_two min_two max_three min_three max_four min_four   -- for this text's walks alone
set_option linter.unusedVariables false
set_option linter.unusedSimpArgs false

def cmp_Compare_int.f (a0 : Int) (a1 : Int) : Option (Int) := (cmp_isNaN_int.f a0).bind fun t359 => ((cmp_isNaN_int.f a1).bind fun t360 => (if t359 = true then (if t360 = true then (some 0) else (some (-1))) else (if t360 = true then (some 1) else (if a0 < a1 then (some (-1)) else (if a0 > a1 then (some 1) else (some 0))))))
set_option maxHeartbeats 8000000 in
set_option maxRecDepth 100000 in
theorem cmp_Compare_int.calls (a0 : Int) (a1 : Int) (r : Int) (w : World) (h : cmp_Compare_int.f a0 a1 = some r) :
  Calls Tryz.prog 39 #[.int .i64 a0, .int .i64 a1] w fun e w' => e = .returned (.int .i64 r) ∧ Drawn0 w w' := by
 have H : ((cmp_isNaN_int.f a0).bind fun t359 => ((cmp_isNaN_int.f a1).bind fun t360 => (if t359 = true then (if t360 = true then (some 0) else (some (-1))) else (if t360 = true then (some 1) else (if a0 < a1 then (some (-1)) else (if a0 > a1 then (some 1) else (some 0))))))) = some r := h; clear h; replace H := Option.bind_eq_some_iff.mp H; obtain ⟨t359, A30, H⟩ := H; replace H : ((cmp_isNaN_int.f a1).bind fun t360 => (if t359 = true then (if t360 = true then (some 0) else (some (-1))) else (if t360 = true then (some 1) else (if a0 < a1 then (some (-1)) else (if a0 > a1 then (some 1) else (some 0)))))) = some r := H; have A3 := Aside0.mk A30; clear A30; replace H := Option.bind_eq_some_iff.mp H; obtain ⟨t360, A40, H⟩ := H; replace H : (if t359 = true then (if t360 = true then (some 0) else (some (-1))) else (if t360 = true then (some 1) else (if a0 < a1 then (some (-1)) else (if a0 > a1 then (some 1) else (some 0))))) = some r := H; have A4 := Aside0.mk A40; clear A40
 by_cases c5 : t359 = true
 ·subst c5
  have H1 : (if t360 = true then (some 0) else (some (-1))) = some r := by rw [if_pos rfl] at H; exact H
  clear H; have H := H1; clear H1
  by_cases c6 : t360 = true
  ·subst c6
   have H1 : (some 0) = some r := by rw [if_pos rfl] at H; exact H
   clear H; have H := H1; clear H1; obtain rfl := Option.some.inj H
   go_enter Tryz.func39, Tryz.ntmps39
   go_wp2_with (first | ((with_reducible refine gate_callee (f := 56) rfl ?_); refine goesA (some 8) rfl rfl Tryz.func56 (by kernel_rfl) rfl #[.int .i64 a0] rfl ?_; (with_reducible refine (cmp_isNaN_int.calls a0 true _ A3.out).mono ?_); rintro e w' ⟨rfl, ⟨nd, rfl⟩⟩; refine ⟨_, rfl, ?_⟩) | ((with_reducible refine gate_callee (f := 56) rfl ?_); refine goesA (some 10) rfl rfl Tryz.func56 (by kernel_rfl) rfl #[.int .i64 a1] rfl ?_; (with_reducible refine (cmp_isNaN_int.calls a1 true _ A4.out).mono ?_); rintro e w' ⟨rfl, ⟨nd, rfl⟩⟩; refine ⟨_, rfl, ?_⟩))
   go_ret
   exact ⟨by first | rfl | (simp; done) | (simp [*]; done), by repeat (first | exact Drawn0.refl _ | apply Drawn0.step)⟩
  ·replace c6 := Bool.eq_false_iff.mpr c6; subst c6
   have H1 : (some (-1)) = some r := by rw [if_neg (show ¬ (false = true) by decide)] at H; exact H
   clear H; have H := H1; clear H1; obtain rfl := Option.some.inj H
   go_enter Tryz.func39, Tryz.ntmps39
   go_wp2_with (first | ((with_reducible refine gate_callee (f := 56) rfl ?_); refine goesA (some 8) rfl rfl Tryz.func56 (by kernel_rfl) rfl #[.int .i64 a0] rfl ?_; (with_reducible refine (cmp_isNaN_int.calls a0 true _ A3.out).mono ?_); rintro e w' ⟨rfl, ⟨nd, rfl⟩⟩; refine ⟨_, rfl, ?_⟩) | ((with_reducible refine gate_callee (f := 56) rfl ?_); refine goesA (some 10) rfl rfl Tryz.func56 (by kernel_rfl) rfl #[.int .i64 a1] rfl ?_; (with_reducible refine (cmp_isNaN_int.calls a1 false _ A4.out).mono ?_); rintro e w' ⟨rfl, ⟨nd, rfl⟩⟩; refine ⟨_, rfl, ?_⟩))
   go_ret
   exact ⟨by first | rfl | (simp; done) | (simp [*]; done), by repeat (first | exact Drawn0.refl _ | apply Drawn0.step)⟩
 ·replace c5 := Bool.eq_false_iff.mpr c5; subst c5
  have H1 : (if t360 = true then (some 1) else (if a0 < a1 then (some (-1)) else (if a0 > a1 then (some 1) else (some 0)))) = some r := by rw [if_neg (show ¬ (false = true) by decide)] at H; exact H
  clear H; have H := H1; clear H1
  by_cases c7 : t360 = true
  ·subst c7
   have H1 : (some 1) = some r := by rw [if_pos rfl] at H; exact H
   clear H; have H := H1; clear H1; obtain rfl := Option.some.inj H
   go_enter Tryz.func39, Tryz.ntmps39
   go_wp2_with (first | ((with_reducible refine gate_callee (f := 56) rfl ?_); refine goesA (some 8) rfl rfl Tryz.func56 (by kernel_rfl) rfl #[.int .i64 a0] rfl ?_; (with_reducible refine (cmp_isNaN_int.calls a0 false _ A3.out).mono ?_); rintro e w' ⟨rfl, ⟨nd, rfl⟩⟩; refine ⟨_, rfl, ?_⟩) | ((with_reducible refine gate_callee (f := 56) rfl ?_); refine goesA (some 10) rfl rfl Tryz.func56 (by kernel_rfl) rfl #[.int .i64 a1] rfl ?_; (with_reducible refine (cmp_isNaN_int.calls a1 true _ A4.out).mono ?_); rintro e w' ⟨rfl, ⟨nd, rfl⟩⟩; refine ⟨_, rfl, ?_⟩))
   go_ret
   exact ⟨by first | rfl | (simp; done) | (simp [*]; done), by repeat (first | exact Drawn0.refl _ | apply Drawn0.step)⟩
  ·replace c7 := Bool.eq_false_iff.mpr c7; subst c7
   have H1 : (if a0 < a1 then (some (-1)) else (if a0 > a1 then (some 1) else (some 0))) = some r := by rw [if_neg (show ¬ (false = true) by decide)] at H; exact H
   clear H; have H := H1; clear H1
   by_cases c8 : a0 < a1
   ·rw [if_pos c8] at H; have c8b0 : decide (a0 < a1) = true := decide_eq_true c8; clear c8; obtain rfl := Option.some.inj H
    go_enter Tryz.func39, Tryz.ntmps39
    go_wp2_with (first | ((with_reducible refine gate_callee (f := 56) rfl ?_); refine goesA (some 8) rfl rfl Tryz.func56 (by kernel_rfl) rfl #[.int .i64 a0] rfl ?_; (with_reducible refine (cmp_isNaN_int.calls a0 false _ A3.out).mono ?_); rintro e w' ⟨rfl, ⟨nd, rfl⟩⟩; refine ⟨_, rfl, ?_⟩) | ((with_reducible refine gate_callee (f := 56) rfl ?_); refine goesA (some 10) rfl rfl Tryz.func56 (by kernel_rfl) rfl #[.int .i64 a1] rfl ?_; (with_reducible refine (cmp_isNaN_int.calls a1 false _ A4.out).mono ?_); rintro e w' ⟨rfl, ⟨nd, rfl⟩⟩; refine ⟨_, rfl, ?_⟩))
    go_ret
    exact ⟨by first | rfl | (simp; done) | (simp [*]; done), by repeat (first | exact Drawn0.refl _ | apply Drawn0.step)⟩
   ·rw [if_neg c8] at H; have c8b0 : decide (a0 < a1) = false := decide_eq_false c8; clear c8
    by_cases c9 : a0 > a1
    ·rw [if_pos c9] at H; have c9b0 : decide (a1 < a0) = true := decide_eq_true c9; clear c9; obtain rfl := Option.some.inj H
     go_enter Tryz.func39, Tryz.ntmps39
     go_wp2_with (first | ((with_reducible refine gate_callee (f := 56) rfl ?_); refine goesA (some 8) rfl rfl Tryz.func56 (by kernel_rfl) rfl #[.int .i64 a0] rfl ?_; (with_reducible refine (cmp_isNaN_int.calls a0 false _ A3.out).mono ?_); rintro e w' ⟨rfl, ⟨nd, rfl⟩⟩; refine ⟨_, rfl, ?_⟩) | ((with_reducible refine gate_callee (f := 56) rfl ?_); refine goesA (some 10) rfl rfl Tryz.func56 (by kernel_rfl) rfl #[.int .i64 a1] rfl ?_; (with_reducible refine (cmp_isNaN_int.calls a1 false _ A4.out).mono ?_); rintro e w' ⟨rfl, ⟨nd, rfl⟩⟩; refine ⟨_, rfl, ?_⟩))
     go_ret
     exact ⟨by first | rfl | (simp; done) | (simp [*]; done), by repeat (first | exact Drawn0.refl _ | apply Drawn0.step)⟩
    ·rw [if_neg c9] at H; have c9b0 : decide (a1 < a0) = false := decide_eq_false c9; clear c9; obtain rfl := Option.some.inj H
     go_enter Tryz.func39, Tryz.ntmps39
     go_wp2_with (first | ((with_reducible refine gate_callee (f := 56) rfl ?_); refine goesA (some 8) rfl rfl Tryz.func56 (by kernel_rfl) rfl #[.int .i64 a0] rfl ?_; (with_reducible refine (cmp_isNaN_int.calls a0 false _ A3.out).mono ?_); rintro e w' ⟨rfl, ⟨nd, rfl⟩⟩; refine ⟨_, rfl, ?_⟩) | ((with_reducible refine gate_callee (f := 56) rfl ?_); refine goesA (some 10) rfl rfl Tryz.func56 (by kernel_rfl) rfl #[.int .i64 a1] rfl ?_; (with_reducible refine (cmp_isNaN_int.calls a1 false _ A4.out).mono ?_); rintro e w' ⟨rfl, ⟨nd, rfl⟩⟩; refine ⟨_, rfl, ?_⟩))
     go_ret
     exact ⟨by first | rfl | (simp; done) | (simp [*]; done), by repeat (first | exact Drawn0.refl _ | apply Drawn0.step)⟩

end Go.Proofs.YtdblkmnbkpphjaaGreatDoor.P
/- slices.Clone and slices.SortFunc at rectangles: what they leave; the closure that compares. -/
namespace Go.Proofs.YtdblkmnbkpphjaaGreatDoor.P
set_option linter.unusedVariables false
open Go.Shelf Go.RowKit Go.Proofs.YtdblkmnbkpphjaaGreatDoor Go.Proofs.YtdblkmnbkpphjaaGreatDoorW.PrintWords Go.Proofs.YtdblkmnbkpphjaaGreatDoorW.PrintLast Go.Proofs.YtdblkmnbkpphjaaGreatDoorW.PrintMore

set_option maxHeartbeats 2000000 in
set_option maxRecDepth 100000 in
theorem clone_rects (A0 : Option Addr) (c0 : Nat) (l0 : List S46) (w : World) (hr0 : Kd.C k46 w A0 l0.length l0) (hc0 : l0.length ≤ c0) (hlen : l0.length ≤ 1000000) :
  Calls Tryz.prog 36 #[.slice A0 l0.length c0] w fun e w' => ∃ v1_, e = .returned v1_ ∧ Kd.R k46 46 w' w.heap.size (fun _ => True) v1_ l0 ∧ Below w.heap.size w w' := by
 have HR := Aside0.mk hr0
 have HB := Aside0.mk (Below.refl w.heap.size w)
 have qn : ∀ (w : World) (a : Option Addr) (n c n' c' : Nat), (binOp .eql 24 (.slice a n c) (.slice none n' c')).run Tryz.prog w = .ok (.bool a.isNone) w := fun w a n c n' c' => Lib.run_eql_slice_nil w _ _ a n c n' c' Tryz.underlying24
 cases A0 with
 | none =>
  have h0 : l0.length = 0 := by
   rcases Nat.eq_zero_or_pos l0.length with h | h
   ·exact h
   ·obtain ⟨ad, e, _⟩ := hr0.2.2 h; cases e
  obtain rfl := List.eq_nil_of_length_eq_zero h0
  clear hr0 h0
  go_enter Tryz.func36, Tryz.ntmps36
  go_wp2
  go_ret
  exact ⟨_, rfl, Kd.R_nil _ _ _ _ _, Below.refl _ _⟩
 | some ad =>
  clear hr0
  go_enter Tryz.func36, Tryz.ntmps36
  go_wp2_with (first
   | ((with_reducible refine gate_dst (N := 5) rfl ?_); refine Kd.R_lit k46 (w0 := w) w.heap.size 46 ?hg (N := 5) ?hd (xs := ([] : List S46)) (inner := []) (ok := fun _ => True) (okp := fun _ => True) ?hr ?hp (fun _ hk => hk) trivial (Below.refl _ _) (Nat.le_refl _) (by simp) ?_; (case hd => rfl); (case hg => rfl); (case hr => first | (go_simp; done) | (go_simp; rfl)); (case hp => exact Reps.none _ _); intro v5 w5 ho hb hg_ hnew_; clear hg_ hnew_; have HO := Aside0.mk ho; have HB1 := Aside0.mk hb; clear ho hb)
   | ((with_reducible refine gate_builtin (b := .append) (xs := #[.tmp 5, .tmp 6]) rfl ?_); at_builtin; refine Kd.R_append_rows k46 (w0 := w) w.heap.size rfl (.tmp 5) (.tmp 6) 24 46 (.agg #[(.int .i64 0), (.int .i64 0), (.int .i64 0), (.int .i64 0)]) 32 rfl Tryz.underlying24 info46 rfl (by decide) (by omega) v5 [] l0 _ _ _ (fun _ => True) (fun _ => False) rfl rfl ?aO ?aR (fun _ _ h => h) (fun _ h => h.elim) ?aF ?aB ?aS ?aL ?_; (case aR => exact Kd.C_below HR.out HB1.out); (case aB => exact HB1.out); (case aF => exact (fun _ _ => trivial)); (case aO => exact HO.out); (case aS => exact (below_size HB1.out)); (case aL => simp; omega); intro v7 w7 ho hb hg hat; have HO7 := Aside0.mk ho; have HB7 := Aside0.mk hb; clear ho hb hg hat))
  go_ret
  exact ⟨_, rfl, HO7.out, HB7.out⟩

instance : Inhabited S46 := ⟨⟨0, 0, 0, 0⟩⟩
def encR (x : S46) : List Value := [.int .i64 x.f0, .int .i64 x.f1, .int .i64 x.f2, .int .i64 x.f3]
def cmpX (x y : S46) : Int := if x.f0 < y.f0 then -1 else if x.f0 > y.f0 then 1 else 0
theorem ltX (x y : S46) : ltOf cmpX x y = decide (x.f0 < y.f0) := by
 unfold ltOf cmpX
 by_cases h1 : x.f0 < y.f0
 ·simp [h1]
 ·by_cases h2 : x.f0 > y.f0 <;> simp [h1, h2]
theorem swoX : Sort.SWO (ltOf cmpX) where
 irrefl x := by rw [ltX]; simp
 trans x y z h1 h2 := by rw [ltX] at *; simp at *; omega
 ntrans x y z h1 h2 := by rw [ltX] at *; simp at *; omega
set_option maxHeartbeats 1000000 in
set_option maxRecDepth 100000 in
theorem cmp_rects (x y : S46) (W : World) : Calls Tryz.prog 38 #[.agg #[.int .i64 x.f0, .int .i64 x.f1, .int .i64 x.f2, .int .i64 x.f3], .agg #[.int .i64 y.f0, .int .i64 y.f1, .int .i64 y.f2, .int .i64 y.f3]] W fun e w' => e = .returned (.int .i64 (cmpX x y)) ∧ ∃ q os', w' = Sort.grow (W.drewN q) os' := by
 have hf : cmp_Compare_int.f x.f0 y.f0 = some (cmpX x y) := by
  have hn : ∀ a : Int, cmp_isNaN_int.f a = some false := fun a => by unfold cmp_isNaN_int.f; simp
  unfold cmp_Compare_int.f cmpX
  rw [hn, hn]
  simp only [Option.bind_some, Bool.false_eq_true, if_false]
  split
  ·rfl
  ·split <;> rfl
 have HC := Lib.hid fun W' => cmp_Compare_int.calls x.f0 y.f0 _ W' hf
 clear hf
 generalize cmpX x y = r at HC ⊢
 go_enter Tryz.func38, Tryz.ntmps38
 go_wp2_with (go_at_call 39; refine (HC.out _).mono ?_; rintro e w' ⟨rfl, ⟨nd, rfl⟩⟩)
 go_ret
 exact ⟨rfl, nd, #[_, _], by rw [Sort.alloc_eq_grow, Sort.alloc_eq_grow, Sort.grow_grow]; rfl⟩

theorem holds_of_C {w : World} {b off : Nat} {l : List S46} (hC : Kd.C k46 w (some ⟨b, off, none⟩) l.length l) (hb : ∃ cells, w.heap[b]? = some (.cells cells 46 (0, 0))) : Sort.HoldsK encR 4 w b off l.toArray := by
 intro t ht
 rw [Sort.size_flatK] at ht
 rw [Sort.get_flatK _ _ _ _ ht]
 have ht' : t < l.length * 4 := by simpa using ht
 have hj : t / 4 < l.length := by omega
 obtain ⟨ad, e, hc⟩ := hC.2.2 (by omega)
 cases e
 obtain ⟨c, _, hK, hcc⟩ := hc (t / 4) l[t / 4] (by simp [hj])
 obtain rfl := k46_open hK
 have e1 : l.toArray[t / 4]! = l[t / 4] := by simp [hj]
 rw [e1]
 have hi : t % 4 < 4 := Nat.mod_lt _ (by decide)
 have hu : ([.int .i64 l[t / 4].f0, .int .i64 l[t / 4].f1, .int .i64 l[t / 4].f2, .int .i64 l[t / 4].f3] : List Value)[t % 4]? = some ((encR l[t / 4])[t % 4]!) := by
  generalize t % 4 = q at hi
  match q, hi with
  | 0, _ => rfl
  | 1, _ => rfl
  | 2, _ => rfl
  | 3, _ => rfl
 have h := hcc _ _ hu
 have ea : (⟨b, off, none⟩ : Addr).add (t / 4 * 4 + t % 4) = ⟨b, off + t, none⟩ := by
  have : t / 4 * 4 + t % 4 = t := by omega
  rw [this]
  unfold Addr.add
  split
  ·rename_i h0; rw [h0]; rfl
  ·rfl
 obtain ⟨cells, hb⟩ := hb
 exact ⟨by rw [← ea]; exact h, blk_frozen hb _⟩
theorem C_of_holds {w : World} {b off : Nat} {d : Array S46} (h : Sort.HoldsK encR 4 w b off d) (hm : d.size ≤ 9223372036854775807) : Kd.C k46 w (some ⟨b, off, none⟩) d.toList.length d.toList := by
 refine ⟨rfl, by simpa using hm, fun _ => ⟨_, rfl, fun j p hj => ⟨encR p, rfl, k46.K_of_M (k46_mkM w 0 (fun _ => True) p), fun i u hu => ?_⟩⟩⟩
 have hjl : j < d.size := by
  have := (List.getElem?_eq_some_iff.1 hj).1
  simpa using this
 have hil : i < 4 := (List.getElem?_eq_some_iff.1 hu).1
 have hp : d[j]! = p := by
  rw [getElem!_pos d j hjl]
  simpa using (List.getElem?_eq_some_iff.1 hj).2
 have hc := (Sort.HoldsK.cell h hjl hil).1
 rw [hp] at hc
 have hv : (encR p)[i]! = u := by simp [List.getElem!_eq_getElem?_getD, hu]
 rw [hv] at hc
 have ea : (⟨b, off, none⟩ : Addr).add (j * 4 + i) = ⟨b, off + j * 4 + i, none⟩ := by
  unfold Addr.add
  split
  ·rename_i h0
   have h1 : j = 0 := by omega
   have h2 : i = 0 := by omega
   subst h1 h2; rfl
  ·show (⟨b, off + (j * 4 + i), none⟩ : Addr) = _
   rw [Nat.add_assoc]
 show w.cell? ((⟨b, off, none⟩ : Addr).add (j * 4 + i)) = some u
 rw [ea]; exact hc
theorem sort_block {w : World} {b off m : Nat} {d : Array S46} {os : Array Obj} (hb : b < w.heap.size) : Below b w (sortWorldK encR 4 w b off m d os) := by
 refine ⟨rfl, rfl, rfl, ?_, fun k hk => ?_⟩
 ·show w.heap.size ≤ (w.heap.modify b _ ++ os).size
  simp
 ·show (w.heap.modify b _ ++ os)[k]? = w.heap[k]?
  rw [Array.getElem?_append_left (by simp; omega), Array.getElem?_modify, if_neg (by omega)]
theorem sort_typed {w : World} {b off m : Nat} {d : Array S46} {os : Array Obj} (hb : ∃ cells, w.heap[b]? = some (.cells cells 46 (0, 0))) : ∃ cells, (sortWorldK encR 4 w b off m d os).heap[b]? = some (.cells cells 46 (0, 0)) := by
 obtain ⟨cells, hb⟩ := hb
 have hlt := (Array.getElem?_eq_some_iff.1 hb).1
 refine ⟨Sort.putCells id off (Sort.flatK encR 4 d) cells, ?_⟩
 show (w.heap.modify b (Sort.onCells (Sort.putCells id off (Sort.flatK encR 4 d))) ++ os)[b]? = _
 rw [Array.getElem?_append_left (by simpa using hlt), Array.getElem?_modify, if_pos rfl, hb]
 rfl
set_option maxHeartbeats 1000000 in
theorem sort_rects (A : Option Addr) (c B : Nat) (l : List S46) (w : World) (hR : Kd.R k46 46 w B (fun _ => True) (.slice A l.length c) l) (hlen : l.length ≤ 1000000) :
  Calls Tryz.prog 37 #[.slice A l.length c, .func (.func 38) #[] #[]] w fun e w' => e = .returned (.tuple #[]) ∧ ∃ l' : List S46, l'.Perm l ∧ l'.Pairwise (fun x y => x.f0 ≤ y.f0) ∧ Below B w w' ∧ Kd.C k46 w' A l'.length l' ∧ ∀ ad, A = some ad → B ≤ ad.block ∧ ∃ cells, w'.heap[ad.block]? = some (.cells cells 46 (0, 0)) := by
 have hC := (Kd.R_reads' hR).2.2
 rcases Nat.eq_zero_or_pos l.length with h0 | h0
 ·obtain rfl := List.eq_nil_of_length_eq_zero h0
  refine (AnyF.slices_SortFunc_none (P := Tryz.prog) (ρ := Tryz.sortRect_ren) { Tryz.sortRect with } A c _ w).mono ?_
  rintro e w' ⟨rfl, rfl⟩
  refine ⟨rfl, [], .refl _, List.Pairwise.nil, Below.refl _ _, hC, fun ad e => ?_⟩
  subst e
  exact ⟨Kd.R_base hR _ rfl, Kd.R_typed hR _ rfl⟩
 ·obtain ⟨ad, e, hc⟩ := hC.2.2 h0
  subst e
  obtain ⟨x0, hx0⟩ : ∃ x0, l[0]? = some x0 := ⟨l[0], by simp [h0]⟩
  obtain ⟨cs, hcl, _, hcc⟩ := hc 0 x0 hx0
  obtain ⟨b, off, ea⟩ : ∃ b o, ad = ⟨b, o, none⟩ := by
   obtain ⟨v0, hv0⟩ : ∃ v0, cs[0]? = some v0 := ⟨cs[0]'(by rw [hcl]; decide), by simp⟩
   have := hcc 0 v0 hv0
   have e0 : ad.add (0 * k46.sz + 0) = ad := by rw [Nat.zero_mul]; rfl
   rw [e0] at this
   exact addr_plain this
  subst ea
  have hty := Kd.R_typed hR b rfl
  have hbase : B ≤ b := Kd.R_base hR b rfl
  have hblk : b < w.heap.size := by obtain ⟨cells, h⟩ := hty; exact (Array.getElem?_eq_some_iff.1 h).1
  have hH := holds_of_C hC hty
  have eg := enters_of Tryz.func38 (P := Tryz.prog) (by decide) rfl
  have hS := AnyQ.slices_SortFunc Tryz.sortRect 4 Tryz.isAgg46 Tryz.sizeOf46 encR (fun _ => rfl) (fun x v hv => by simp [encR] at hv; rcases hv with rfl | rfl | rfl | rfl <;> rfl) cmpX swoX 38 #[] b off c l.toArray w eg (fun _ _ _ _ x y => cmp_rects x y _) hH hblk (by simp; omega)
  have es : l.toArray.size = l.length := by simp
  rw [es] at hS
  refine hS.mono ?_
  rintro e w' ⟨rfl, d', n, os, hp, hs, rfl⟩
  obtain ⟨hp1, _, hp3⟩ := hp
  have hsz : d'.size = l.length := by rw [hp1, es]
  have hp4 : d'.toList.Perm l := by
   have e1 : d'.extract 0 l.length = d' := by rw [← hsz]; simp
   have e2 : l.toArray.extract 0 l.length = l.toArray := by simp
   rw [e1, e2] at hp3
   simpa using hp3
  refine ⟨rfl, d'.toList, hp4, ?_, (sort_block hblk).mono hbase, ?_, fun ad e => ?_⟩
  ·rw [List.pairwise_iff_getElem]
   intro i j hi hj hij
   have h := hs i j (Nat.zero_le _) hij (by simpa [hsz] using hj)
   rw [ltX] at h
   have hi' : i < d'.size := by simpa using hi
   have hj' : j < d'.size := by simpa using hj
   rw [getElem!_pos d' i hi', getElem!_pos d' j hj'] at h
   simp only [Array.getElem_toList]
   have := of_decide_eq_false h
   omega
  ·have hh : Sort.HoldsK encR 4 (sortWorldK encR 4 w b off n d' os) b off d' := Sort.holdsK_grow _ _ _ _ _ _ _ (by show b < (w.heap.modify b _).size; simpa using hblk) (Sort.holdsK_putRowK _ _ _ _ _ l.toArray d' (Sort.holdsK_ahead _ _ _ _ _ _ _ hH) (by simpa using hp1))
   exact C_of_holds hh (by rw [hsz]; omega)
  ·cases e
   exact ⟨hbase, sort_typed hty⟩
end Go.Proofs.YtdblkmnbkpphjaaGreatDoor.P
namespace Go.Proofs.YtdblkmnbkpphjaaGreatDoor.P
open Go.RowKit Go.Proofs.YtdblkmnbkpphjaaGreatDoorW.PrintWords Go.Proofs.YtdblkmnbkpphjaaGreatDoorW.PrintLast Go.Proofs.YtdblkmnbkpphjaaGreatDoorW.PrintMore Go.Proofs.YtdblkmnbkpphjaaGreatDoorW.PrintAuto
attribute [local go_sem] max2_int min2_int max_two min_two max_three min_three max_four min_four   -- for this text's walks alone
set_option linter.unusedVariables false
set_option linter.unusedSimpArgs false

--FLAGS making rounds
--IMPORT Derived.Test.YtdblkmnbkpphjaaGreatDoorRects
--IMPORT Derived.Test.YtdblkmnbkpphjaaGreatDoorGaps
open Go.Proofs.YtdblkmnbkpphjaaGreatDoor
def okFlaws (L : Int) (l : List S46) : Bool := decide (0 ≤ L ∧ L ≤ 1000000000000 ∧ l.length ≤ 1000000) && l.all (fun f => decide (0 ≤ f.f0 ∧ 1 ≤ f.f2 ∧ f.f0 + f.f2 ≤ L))
def flawP (f : S46) : Int × Int := (f.f0, f.f2)
def zonesL (least : Int) (zs : List (Int × Int)) : List S44 := (zs.filter fun z => decide (z.2 - z.1 ≥ least)).map fun z => ⟨z.1, z.2⟩
def endL (hi p least : Int) (out : List S44) : List S44 := if hi > p ∧ hi - p ≥ least then out ++ [⟨p, hi⟩] else out
theorem endL_zones (hi p least : Int) (out : List S44) (rest : List (Int × Int)) : endL hi p least out ++ zonesL least rest = out ++ zonesL least (if hi > p then (p, hi) :: rest else rest) := by
 unfold endL zonesL
 by_cases h : hi > p
 ·rw [if_pos h, List.filter_cons]
  by_cases h2 : hi - p ≥ least
  ·rw [if_pos ⟨h, h2⟩, if_pos (by simpa using h2)]; simp
  ·rw [if_neg (fun hh => h2 hh.2), if_neg (by simpa using h2)]
 ·rw [if_neg (fun hh => h hh.1), if_neg h]
theorem endL_length (hi p least : Int) (out : List S44) : (endL hi p least out).length ≤ out.length + 1 := by
 unfold endL
 split
 ·simp
 ·omega
def roll_Stretches.f (k : Nat) (a0_0 : ByteArray) (a0_1 : Int) (a0_2 : Int) (a0_3 : Int) (a0_4 : Int) (a0_5 : Int) (l0_6 : List S46) (a1 : Int) : Option (List S44 × Int) :=
 (roll_Check.f k a0_0 a0_1 a0_2 a0_3 a0_4 a0_5 l0_6).bind fun e => if e = 0 then (if okFlaws a0_2 l0_6 = true then some (zonesL a1 (Gaps.gaps a0_2 (l0_6.map flawP)), 0) else none) else some ([], e)
theorem roll_Stretches.mono : ∀ a0_0 a0_1 a0_2 a0_3 a0_4 a0_5 l0_6 a1 k, LeO (roll_Stretches.f k a0_0 a0_1 a0_2 a0_3 a0_4 a0_5 l0_6 a1) (roll_Stretches.f (k + 1) a0_0 a0_1 a0_2 a0_3 a0_4 a0_5 l0_6 a1) := by
 intros
 unfold roll_Stretches.f
 exact LeO.bind (roll_Check.mono _ _ _ _ _ _ _ _) fun _ => LeO.refl _
theorem C_same {w w' : World} {ad : Addr} {n : Nat} {l : List S46} (h : Kd.C k46 w (some ad) n l) (hb : w'.heap[ad.block]? = w.heap[ad.block]?) : Kd.C k46 w' (some ad) n l := by
 refine ⟨h.1, h.2.1, fun hn => ?_⟩; obtain ⟨a, e, hc⟩ := h.2.2 hn; cases e; refine ⟨ad, rfl, fun j p hj => ?_⟩; obtain ⟨c, h1, h2, h3⟩ := hc j p hj
 refine ⟨c, h1, ?_, fun i u hu => ?_⟩
 ·obtain rfl := k46_open h2; exact k46.K_of_M (k46_mkM w' 0 (fun _ => True) p)
 ·have := h3 i u hu
  unfold World.cell? at this ⊢
  rw [add_block] at this ⊢; rw [hb]; exact this
theorem heap_size_set (w : World) (g j : Nat) (v : Value) : (w.setCell ⟨g, j, none⟩ v).heap.size = w.heap.size := by simp [World.setCell]
theorem below_setS {B : Nat} {w W : World} {g j : Nat} {v : Value} (h : Below B w W) (hg : B ≤ g) : Below B w (W.setCell ⟨g, j, none⟩ v) := h.setCell hg _
set_option maxHeartbeats 2000000 in
set_option maxRecDepth 100000 in
theorem end_calls (hi p least : Int) (v : Value) (out : List S44) (ga gl go B : Nat) (w W : World)
  (hga : Aside0 (W.heap[ga]? = some (.cells #[.int .i64 p] 3 (0, 0)))) (hgl : Aside0 (W.heap[gl]? = some (.cells #[.int .i64 least] 3 (0, 0)))) (hgo : Aside0 (W.heap[go]? = some (.cells #[v] 35 (0, 0))))
  (hR : Aside0 (Kd.R k44 44 W B (fun _ => True) v out)) (HB : Aside0 (Below B w W)) (hB : B ≤ go) (hBw : B ≤ W.heap.size) (h0 : 0 ≤ p) (hp : p ≤ 1000000000000) (hh : hi ≤ 1000000000000) (hh0 : 0 ≤ hi) (hlen : out.length ≤ 10000000) :
  Calls Tryz.prog 40 #[.int .i64 hi, .pointer (some ⟨ga, 0, none⟩), .pointer (some ⟨gl, 0, none⟩), .pointer (some ⟨go, 0, none⟩)] W fun e w' => e = .returned (.tuple #[]) ∧ ∃ v', w'.heap[go]? = some (.cells #[v'] 35 (0, 0)) ∧ Kd.R k44 44 w' B (fun _ => True) v' (endL hi p least out) ∧ Below B w w' ∧ B ≤ w'.heap.size ∧ ∀ g cs t, t ≠ 44 → g ≠ go → W.heap[g]? = some (.cells cs t (0, 0)) → w'.heap[g]? = some (.cells cs t (0, 0)) := by
 have ca := bc hga.out 0 (.int .i64 p) rfl; have cl := bc hgl.out 0 (.int .i64 least) rfl
 by_cases h1 : hi > p
 ·have d1 : decide (p < hi) = true := decide_eq_true h1
  by_cases h2 : hi - p ≥ least
  ·have d2 : decide (least ≤ hi - p) = true := decide_eq_true h2; have co := bc hgo.out 0 v rfl
   have he : endL hi p least out = out ++ [⟨p, hi⟩] := by unfold endL; rw [if_pos ⟨h1, h2⟩]
   rw [he]; clear he
   go_enter Tryz.func40, Tryz.ntmps40
   go_wp2_with (first | ((with_reducible refine gate_builtin (b := .append) (xs := #[.tmp 15, .tmp 19]) rfl ?_); at_builtin; refine Kd.R_append k44 (w0 := w) B rfl (.tmp 15) (.tmp 19) 35 44 (.agg #[(.int .i64 0), (.int .i64 0)]) 16 rfl Tryz.underlying35 info44 rfl (by decide) (by omega) v out (⟨p, hi⟩ : S44) [.int .i64 p, .int .i64 hi] (fun _ => True) (fun _ => False) rfl rfl ?aP (fun _ hk => hk.elim) ?aF ?aO ?aB ?aS ?aL ?_; (case aP => exact k44_mkM _ _ _ (⟨p, hi⟩ : S44)); (case aB => exact HB.out); (case aF => exact (fun _ _ => trivial)); (case aO => exact hR.out); (case aS => exact hBw); (case aL => omega); intro v1 w1 ho hb hg hat; clear hat; have HO := Aside0.mk ho; have HB1 := Aside0.mk hb; have HK := Lib.hid (show ∀ g cs t, t ≠ 44 → W.heap[g]? = some (.cells cs t (0, 0)) → w1.heap[g]? = some (.cells cs t (0, 0)) from fun g cs t ht hgg => blk_grown hgg hg (Kd.R_ne hR.out hgg (fun e => ht e.symm))); have HGO := Aside0.mk (HK.out go _ _ (by decide) hgo.out); have y0 := blk_frozen HGO.out 0; have co1 := bc HGO.out 0 v rfl; have hs1 := Nat.le_trans hBw hg.size; clear ho hb hg co; obtain ⟨A1, c1, e1⟩ := Kd.R_slice HO.out; subst e1))
   have hl2 : (out ++ [(⟨p, hi⟩ : S44)]).length = out.length + 1 := by simp
   rw [hl2] at HO
   go_end0
   exact ⟨rfl, _, blk_put (cs := #[v]) HGO.out 0 _ rfl, Kd.R_mono (Kd.R_far (Kd.R_far1 HO.out rfl (Kd.R_ne HO.out HGO.out (by decide))) (fun _ hk => hk.2) _) (fun _ _ => trivial), below_setS HB1.out hB, by rw [heap_size_set]; exact hs1, fun g cs t ht hne hgg => blk_far (HK.out g cs t ht hgg) (by exact hne) _⟩
  ·have d2 : decide (least ≤ hi - p) = false := decide_eq_false h2
   have he : endL hi p least out = out := by unfold endL; rw [if_neg (fun hh => h2 hh.2)]
   rw [he]; clear he
   go_enter Tryz.func40, Tryz.ntmps40
   go_wp2_with fail
   go_end0
   exact ⟨rfl, v, hgo.out, hR.out, HB.out, hBw, fun _ _ _ _ _ h => h⟩
 ·have d1 : decide (p < hi) = false := decide_eq_false h1
  have he : endL hi p least out = out := by unfold endL; rw [if_neg (fun hh => h1 hh.1)]
  rw [he]; clear he
  go_enter Tryz.func40, Tryz.ntmps40
  go_wp2_with fail
  go_end0
  exact ⟨rfl, v, hgo.out, hR.out, HB.out, hBw, fun _ _ _ _ _ h => h⟩
set_option maxHeartbeats 4000000 in
set_option maxRecDepth 100000 in
theorem roll_Stretches.calls (k : Nat) (a0_0 : ByteArray) (a0_1 : Int) (a0_2 : Int) (a0_3 : Int) (a0_4 : Int) (a0_5 : Int) (A0_6 : Option Addr) (c0_6 : Nat) (l0_6 : List S46) (a1 : Int) (r1 : List S44) (r2 : Int) (w : World) (hr0_6 : Kd.C k46 w A0_6 l0_6.length l0_6) (hc0_6 : l0_6.length ≤ c0_6) (h : roll_Stretches.f k a0_0 a0_1 a0_2 a0_3 a0_4 a0_5 l0_6 a1 = some (r1, r2)) :
  Calls Tryz.prog 17 #[.agg #[.string a0_0, .int .i64 a0_1, .int .i64 a0_2, .int .i64 a0_3, .int .i64 a0_4, .int .i64 a0_5, .slice A0_6 l0_6.length c0_6], .int .i64 a1] w fun e w' => ∃ v0_ : Value, e = .returned (.tuple #[v0_, .int .i64 r2]) ∧ Kd.R k44 44 w' w.heap.size (fun _ => True) v0_ r1 ∧ Below w.heap.size w w' := by
 have HR := Aside0.mk hr0_6; have HC0 := Aside0.mk hc0_6; clear hr0_6 hc0_6
 unfold roll_Stretches.f at h
 obtain ⟨e0, He, h⟩ := Option.bind_eq_some_iff.mp h; replace h := Aside0.mk h; replace He := Aside0.mk He
 go_enter Tryz.func17, Tryz.ntmps17
 go_wp2_with fail
 have BK := Aside0.mk (blk_alloc (heap_alloc_new w (.cells #[.string a0_0, .int .i64 a0_1, .int .i64 a0_2, .int .i64 a0_3, .int .i64 a0_4, .int .i64 a0_5, .slice A0_6 l0_6.length c0_6] 26)) (.cells #[.int .i64 a1] 3)); have BL : Aside0 (((w.alloc (.cells #[.string a0_0, .int .i64 a0_1, .int .i64 a0_2, .int .i64 a0_3, .int .i64 a0_4, .int .i64 a0_5, .slice A0_6 l0_6.length c0_6] 26)).alloc (.cells #[.int .i64 a1] 3)).heap[w.heap.size + 1]? = some (.cells #[.int .i64 a1] 3 (0, 0))) := ⟨by have h_ := heap_alloc_new (w.alloc (.cells #[.string a0_0, .int .i64 a0_1, .int .i64 a0_2, .int .i64 a0_3, .int .i64 a0_4, .int .i64 a0_5, .slice A0_6 l0_6.length c0_6] 26)) (.cells #[.int .i64 a1] 3); simpa using h_⟩; have HB := Aside0.mk (below_alloc (below_alloc (Below.refl w.heap.size w) (.cells #[.string a0_0, .int .i64 a0_1, .int .i64 a0_2, .int .i64 a0_3, .int .i64 a0_4, .int .i64 a0_5, .slice A0_6 l0_6.length c0_6] 26)) (.cells #[.int .i64 a1] 3)); replace HR := Aside0.mk (Kd.C_below HR.out HB.out)
 have hz : w.heap.size + 2 ≤ ((w.alloc (.cells #[.string a0_0, .int .i64 a0_1, .int .i64 a0_2, .int .i64 a0_3, .int .i64 a0_4, .int .i64 a0_5, .slice A0_6 l0_6.length c0_6] 26)).alloc (.cells #[.int .i64 a1] 3)).heap.size := by simp
 generalize ((w.alloc (.cells #[.string a0_0, .int .i64 a0_1, .int .i64 a0_2, .int .i64 a0_3, .int .i64 a0_4, .int .i64 a0_5, .slice A0_6 l0_6.length c0_6] 26)).alloc (.cells #[.int .i64 a1] 3)) = w1 at *; refine (roll_Check.calls k _ _ _ _ _ _ A0_6 c0_6 l0_6 e0 _ HR.out HC0.out He.out).mono ?_
 rintro e_ w2 ⟨rfl, hb⟩
 replace BK := Aside0.mk (blk_below BK.out hb); replace BL := Aside0.mk (blk_below BL.out hb); replace HB := Aside0.mk (below_step HB.out hb); replace HR := Aside0.mk (Kd.C_below HR.out hb); replace hz := Nat.le_trans hz hb.size; clear hb He w1
 by_cases hz0 : e0 = 0
 ·subst hz0; replace h := h.out; rw [if_pos rfl] at h
  by_cases hok : okFlaws a0_2 l0_6 = true
  ·rw [if_pos hok] at h; simp only [Option.some.injEq, Prod.mk.injEq] at h; obtain ⟨hr1, rfl⟩ := h; have Hr1 := Aside0.mk hr1; clear hr1
   unfold okFlaws at hok
   rw [Bool.and_eq_true] at hok; obtain ⟨hok1, hok2⟩ := hok; obtain ⟨hL0, hL, hlen⟩ := of_decide_eq_true hok1; have Hok := Aside0.mk hok2; clear hok1 hok2; have b6 := bc BK.out 6 (.slice A0_6 l0_6.length c0_6) rfl
   go_wp2_with fail
   clear b6; refine (clone_rects A0_6 c0_6 l0_6 _ HR.out HC0.out hlen).mono ?_
   rintro e_ w3 ⟨v, rfl, ho, hb⟩
   have hz3 := hb.size; have HO := Aside0.mk ho; replace BK := Aside0.mk (blk_below BK.out hb); replace BL := Aside0.mk (blk_below BL.out hb); replace HB := Aside0.mk (below_step HB.out hb); clear hb ho HR; obtain ⟨A, c, rfl⟩ := Kd.R_slice HO.out
   go_wp2_with fail
   refine (sort_rects A c w2.heap.size l0_6 _ HO.out hlen).mono ?_
   rintro e_ w4 ⟨rfl, l', hp, hs, hb, hC, hT⟩
   replace BK := Aside0.mk (show w4.heap[w.heap.size]? = _ from (hb.block _ (by omega)).trans BK.out); replace BL := Aside0.mk (show w4.heap[w.heap.size + 1]? = _ from (hb.block _ (by omega)).trans BL.out); have hz4 := Nat.le_trans hz3 hb.size; replace HB := Aside0.mk (show Below w.heap.size w w4 from HB.out.trans (hb.mono (by omega))); have HC := Aside0.mk hC; have HT := Lib.hid hT; have Hp := Aside0.mk hp; have Hs := Aside0.mk hs; have hll : l0_6.length = l'.length := hp.length_eq.symm; clear hb hC hT hp hs HO hz3
   go_wp2_with fail
   have hspec : Hid ([] ++ zonesL a1 (Gaps.go a0_2 ((l'.drop 0).map flawP) 0) = r1) := by
    have hall := List.all_eq_true.1 Hok.out
    have hw : ∀ f ∈ l0_6.map flawP, 1 ≤ f.2 ∧ f.1 + f.2 ≤ a0_2 := fun f hf => by
     obtain ⟨g, hg, rfl⟩ := List.mem_map.1 hf; have := of_decide_eq_true (hall g hg); exact ⟨this.2.1, this.2.2⟩
    have := Gaps.go_any a0_2 (l0_6.map flawP) (l'.map flawP) (Hp.out.map _) (List.pairwise_map.2 Hs.out) hw; exact Lib.hid (by rw [List.drop_zero, this, Hr1.out]; rfl)
   have Hall : Hid (∀ x ∈ l', 0 ≤ x.f0 ∧ 1 ≤ x.f2 ∧ x.f0 + x.f2 ≤ a0_2) := Lib.hid fun x hx => of_decide_eq_true (List.all_eq_true.1 Hok.out x (Hp.out.mem_iff.1 hx))
   rw [hll] at hlen BK; clear Hok Hp Hs Hr1 hll HC0; have BO := Aside0.mk (blk_alloc (heap_alloc_new w4 (.cells #[.slice none 0 0] 35)) (.cells #[.int .i64 0] 3)); have BA : Aside0 (((w4.alloc (.cells #[.slice none 0 0] 35)).alloc (.cells #[.int .i64 0] 3)).heap[w4.heap.size + 1]? = some (.cells #[.int .i64 0] 3 (0, 0))) := ⟨by have h_ := heap_alloc_new (w4.alloc (.cells #[.slice none 0 0] 35)) (.cells #[.int .i64 0] 3); simpa using h_⟩; have HD := Aside0.mk (below_alloc (below_alloc (Below.refl w4.heap.size w4) (.cells #[.slice none 0 0] 35)) (.cells #[.int .i64 0] 3)); replace BK := Aside0.mk (blk_below BK.out HD.out); replace BL := Aside0.mk (blk_below BL.out HD.out); replace HC := Aside0.mk (Kd.C_below HC.out HD.out); replace HB := Aside0.mk (below_step HB.out HD.out)
   replace HT : Hid (∀ ad, A = some ad → ∃ cells, ((w4.alloc (.cells #[.slice none 0 0] 35)).alloc (.cells #[.int .i64 0] 3)).heap[ad.block]? = some (.cells cells 46 (0, 0))) := Lib.hid fun ad e => by
    obtain ⟨_, cells, hc⟩ := HT.out ad e; exact ⟨cells, blk_below hc HD.out⟩
   have hz5 : w4.heap.size + 2 ≤ ((w4.alloc (.cells #[.slice none 0 0] 35)).alloc (.cells #[.int .i64 0] 3)).heap.size := by simp
   clear HD; generalize ((w4.alloc (.cells #[.slice none 0 0] 35)).alloc (.cells #[.int .i64 0] 3)) = w5 at *; generalize w4.heap.size = go at *
   replace hz4 : w.heap.size + 2 ≤ go := by omega
   have HV : Aside0 (Kd.R k44 44 w5 w.heap.size (fun _ => True) (.slice none 0 0) []) := ⟨Kd.R_nil _ _ _ _ _⟩; clear hz
   go_loopw [26] (fun i wr => ∃ (j : Nat) (p : Int) (out : List S44) (v : Value), j ≤ l'.length ∧ i = .int .i64 (j : Int) ∧ 0 ≤ p ∧ p ≤ a0_2 ∧ out.length ≤ j ∧ Hid (out ++ zonesL a1 (Gaps.go a0_2 ((l'.drop j).map flawP) p) = r1) ∧ Aside0 (wr.heap[go]? = some (.cells #[v] 35 (0, 0))) ∧ Aside0 (wr.heap[go + 1]? = some (.cells #[.int .i64 p] 3 (0, 0))) ∧ Aside0 (wr.heap[w.heap.size]? = some (.cells #[.string a0_0, .int .i64 a0_1, .int .i64 a0_2, .int .i64 a0_3, .int .i64 a0_4, .int .i64 a0_5, .slice A0_6 l'.length c0_6] 26 (0, 0))) ∧ Aside0 (wr.heap[w.heap.size + 1]? = some (.cells #[.int .i64 a1] 3 (0, 0))) ∧ Aside0 (Kd.R k44 44 wr w.heap.size (fun _ => True) v out) ∧ Aside0 (Kd.C k46 wr A l'.length l') ∧ Hid (∀ ad, A = some ad → ∃ cells, wr.heap[ad.block]? = some (.cells cells 46 (0, 0))) ∧ Aside0 (Below w.heap.size w wr) ∧ go + 2 ≤ wr.heap.size) (fun i _ => l'.length - (intOf i).toNat)
   case atStart => exact ⟨0, 0, [], _, Nat.zero_le _, rfl, Int.le_refl _, hL0, Nat.zero_le _, hspec, BO, BA, BK, BL, HV, HC, HT, HB, hz5⟩
   case round =>
    obtain ⟨j, p, out, v, hj, rfl, hp0, hpL, hol, hspec, BO, BA, BK, BL, HV, HC, HT, HB, hzr⟩ := hrel
    by_cases hlt : j < l'.length
    ·obtain ⟨ad, hA, q0, q1, q2, q3⟩ := at_T46 HC.out (j : Int) (by omega) (by omega); subst hA
     have hltI : (j : Int) < (l'.length : Int) := by omega
     have ex : rd_T46 l' (j : Int) = l'[j] := by show l'.getD (Int.toNat (j : Int)) _ = _; rw [Int.toNat_natCast, List.getD_eq_getElem?_getD, List.getElem?_eq_getElem hlt]; rfl
     obtain ⟨hx0, hx1, hx2⟩ := Hall.out l'[j] (List.getElem_mem hlt); have hd := List.drop_eq_getElem_cons hlt; simp only [Int.toNat_natCast] at q0 q1 q2 q3; rw [ex] at q0 q1 q2 q3
     replace hspec : Hid (endL l'[j].f0 p a1 out ++ zonesL a1 (Gaps.go a0_2 ((l'.drop (j + 1)).map flawP) (max p (l'[j].f0 + l'[j].f2))) = r1) := Lib.hid (by
      have h_ := hspec.out; rw [hd, List.map_cons] at h_; rw [endL_zones, ← h_]
      congr 2)
     have hel := endL_length l'[j].f0 p a1 out; clear hd ex; generalize l'[j] = x at *
     go_wp2_with fail
     have BF := Aside0.mk (heap_alloc_new wr (.cells #[.int .i64 x.f0, .int .i64 x.f1, .int .i64 x.f2, .int .i64 x.f3] 46)); have HD := Aside0.mk (below_alloc (Below.refl wr.heap.size wr) (.cells #[.int .i64 x.f0, .int .i64 x.f1, .int .i64 x.f2, .int .i64 x.f3] 46))
     have hzf : go + 2 ≤ (wr.alloc (.cells #[.int .i64 x.f0, .int .i64 x.f1, .int .i64 x.f2, .int .i64 x.f3] 46)).heap.size := by simp; omega
     replace BO := Aside0.mk (blk_below BO.out HD.out); replace BA := Aside0.mk (blk_below BA.out HD.out); replace BK := Aside0.mk (blk_below BK.out HD.out); replace BL := Aside0.mk (blk_below BL.out HD.out); replace HV := Aside0.mk (Kd.R_below HV.out HD.out); replace HC := Aside0.mk (Kd.C_below HC.out HD.out); replace HB := Aside0.mk (below_step HB.out HD.out); replace HT := Lib.hid (show ∃ cells, (wr.alloc (.cells #[.int .i64 x.f0, .int .i64 x.f1, .int .i64 x.f2, .int .i64 x.f3] 46)).heap[ad.block]? = some (.cells cells 46 (0, 0)) from by obtain ⟨cells, hc⟩ := HT.out ad rfl; exact ⟨cells, blk_below hc HD.out⟩); have hgf : go + 2 ≤ wr.heap.size := hzr; clear q0 q1 q2 q3 HD; refine (end_calls x.f0 p a1 v out (go + 1) (w.heap.size + 1) go w.heap.size w _ BA BL BO HV HB (by omega) (by omega) hp0 (by omega) (by omega) hx0 (by omega)).mono ?_
     rintro e_ w6 ⟨rfl, v', hgo', hv', hb', hs', hk'⟩
     obtain ⟨cells, hcl⟩ := HT.out; have hcl6 := hk' _ _ _ (by decide) (blk_ne hcl BO.out (by decide)) hcl; have HC6 := Aside0.mk (C_same HC.out (hcl6.trans hcl.symm))
     have HT6 : Hid (∀ ad', some ad = some ad' → ∃ cells, w6.heap[ad'.block]? = some (.cells cells 46 (0, 0))) := Lib.hid fun ad' e => by cases e; exact ⟨cells, hcl6⟩
     have BA6 := Aside0.mk (hk' _ _ _ (by decide) (by omega) BA.out); have BK6 := Aside0.mk (hk' _ _ _ (by decide) (by omega) BK.out); have BL6 := Aside0.mk (hk' _ _ _ (by decide) (by omega) BL.out); have BF6 := Aside0.mk (hk' _ _ _ (by decide) (by omega) BF.out); replace BO := Aside0.mk hgo'; have HV6 := Aside0.mk hv'; replace HB := Aside0.mk hb'
     replace hzr : go + 2 ≤ w6.heap.size := by have h_ := blk_lt BF6.out; omega
     clear hcl hcl6 HC HT BA BK BL BF HV hgo' hv' hb' hs' hk' hzf; have a0 := bc BA6.out 0 (.int .i64 p) rfl; have ya := blk_frozen BA6.out 0; have g0 := bc BF6.out 0 (.int .i64 x.f0) rfl; have g2 := bc BF6.out 2 (.int .i64 x.f2) rfl
     have hadd : x.f0 + x.f2 ≤ 1000000000000 := by omega
     have hadd0 : 0 ≤ x.f0 + x.f2 := by omega
     go_wp2_with fail
     have hne1 : ad.block ≠ go + 1 := by obtain ⟨cells, hc⟩ := HT6.out ad rfl; exact blk_ne hc BA6.out (by decide)
     obtain ⟨m, hm, hm0, hmL⟩ : ∃ m : Int, m = (if p < x.f0 + x.f2 then x.f0 + x.f2 else p) ∧ 0 ≤ m ∧ m ≤ a0_2 := ⟨_, rfl, by split <;> omega, by split <;> omega⟩
     have hmx : max p (x.f0 + x.f2) = m := by rw [hm]; split <;> omega
     rw [hmx] at hspec; rw [← hm]; clear hm hmx a0 ya g0 g2
     exact ⟨⟨j + 1, m, endL x.f0 p a1 out, v', by omega, by go_num, hm0, hmL, by omega, hspec, ⟨blk_far BO.out (by show go ≠ go + 1; omega) _⟩, ⟨blk_put (cs := #[.int .i64 p]) BA6.out 0 _ rfl⟩, ⟨blk_far BK6.out (by show w.heap.size ≠ go + 1; omega) _⟩, ⟨blk_far BL6.out (by show w.heap.size + 1 ≠ go + 1; omega) _⟩,
      ⟨Kd.R_mono (Kd.R_far (Kd.R_far1 HV6.out rfl (Kd.R_ne HV6.out BA6.out (by decide))) (fun _ hk => hk.2) _) (fun _ _ => trivial)⟩, ⟨C_same HC6.out (Below.heap_setCell _ _ _ _ hne1)⟩,
      Lib.hid fun ad' e => by cases e; obtain ⟨cells, hc⟩ := HT6.out ad rfl; exact ⟨cells, blk_far hc hne1 _⟩, ⟨below_setS HB.out (by omega)⟩, by rw [heap_size_set]; exact hzr⟩, by simp [intOf]; omega⟩
    ·obtain rfl : j = l'.length := by omega
     have hltI : ¬ (l'.length : Int) < (l'.length : Int) := by omega
     replace hspec : Hid (endL a0_2 p a1 out = r1) := Lib.hid (by
      have h_ := hspec.out; have h2 := endL_zones a0_2 p a1 out []; rw [List.drop_length, List.map_nil] at h_
      unfold Gaps.go at h_
      have h3 : zonesL a1 [] = [] := rfl; rw [h3, List.append_nil] at h2
      rw [h2, ← h_])
     have b2 := bc BK.out 2 (.int .i64 a0_2) rfl
     go_wp2_with fail
     refine (end_calls a0_2 p a1 v out (go + 1) (w.heap.size + 1) go w.heap.size w _ BA BL BO HV HB (by omega) (by omega) hp0 (by omega) hL hL0 (by omega)).mono ?_
     rintro e_ w6 ⟨rfl, v', hgo', hv', hb', hs', hk'⟩
     rw [hspec.out] at hv'; have HO6 := Aside0.mk hgo'; have HV6 := Aside0.mk hv'; have HB6 := Aside0.mk hb'; clear hgo' hv' hb' hs' hk' b2 BA BK BL BO HV HC HT HB hspec; have o0 := bc HO6.out 0 v' rfl
     go_wp2_with fail
     go_ret2
     exact ⟨_, rfl, HV6.out, HB6.out⟩
  ·rw [if_neg hok] at h; cases h
 ·replace h := h.out; rw [if_neg hz0] at h; simp only [Option.some.injEq, Prod.mk.injEq] at h; obtain ⟨rfl, rfl⟩ := h
  go_wp2_with fail
  go_ret2
  exact ⟨_, rfl, Kd.R_nil _ _ _ _ _, HB.out⟩

end Go.Proofs.YtdblkmnbkpphjaaGreatDoor.P
namespace Go.Proofs.YtdblkmnbkpphjaaGreatDoor.P
open Go.RowKit Go.Proofs.YtdblkmnbkpphjaaGreatDoorW.PrintWords Go.Proofs.YtdblkmnbkpphjaaGreatDoorW.PrintLast Go.Proofs.YtdblkmnbkpphjaaGreatDoorW.PrintMore
attribute [local go_sem] max2_int min2_int max_two min_two max_three min_three max_four min_four   -- for this text's walks alone
set_option linter.unusedVariables false
set_option linter.unusedSimpArgs false

theorem eqA44 (d : Nat) (w : World) (x0 y0 : Int) (x1 y1 : Int) :
  (Op.equalIn (d + 2) 44 (.agg #[.int .i64 x0, .int .i64 x1]) (.agg #[.int .i64 y0, .int .i64 y1])).run Tryz.prog w = .ok (x0 == y0 && (x1 == y1)) w := by
 refine eqA_of Tryz.underlying44 (by kernel_rfl) ?_
 refine eqf_cons (by rfl) (by go_simp; rfl) (by go_simp; rfl) (by go_simp) ?_
 exact eqf_last (by rfl) (by go_simp; rfl) (by go_simp; rfl) (by go_simp)
end Go.Proofs.YtdblkmnbkpphjaaGreatDoor.P
namespace Go.Proofs.YtdblkmnbkpphjaaGreatDoor.P
open Go.RowKit Go.Proofs.YtdblkmnbkpphjaaGreatDoorW.PrintWords Go.Proofs.YtdblkmnbkpphjaaGreatDoorW.PrintLast Go.Proofs.YtdblkmnbkpphjaaGreatDoorW.PrintMore Go.Proofs.YtdblkmnbkpphjaaGreatDoorW.PrintAuto
attribute [local go_sem] max2_int min2_int max_two min_two max_three min_three max_four min_four   -- for this text's walks alone
set_option linter.unusedVariables false
set_option linter.unusedSimpArgs false

attribute [local go_sem high] eqA44
def garmentref27_SameZones.l0 : Nat → List (S44) → List (S44) → Int → Option (Bool)
 | 0, _, _, _ => none
 | k + 1, x0, x1, x5 => if x5 < (x0.length : Int) then (if 0 ≤ x5 then (if x5 < (x1.length : Int) then (if (!(((rd_T44 x0 x5).f0) == ((rd_T44 x1 x5).f0)) || (!(((rd_T44 x0 x5).f1) == ((rd_T44 x1 x5).f1)))) = true then (some false) else (garmentref27_SameZones.l0 k x0 x1 (wrap64 (x5 + 1)))) else (none)) else (none)) else (some true)
def garmentref27_SameZones.f (k : Nat) (l0 : List (S44)) (l1 : List (S44)) : Option (Bool) := if (l0.length : Int) = (l1.length : Int) then (garmentref27_SameZones.l0 k l0 l1 0) else (some false)
theorem garmentref27_SameZones.mono_l : ∀ k, (∀ y0 y1 y2, LeO (garmentref27_SameZones.l0 k y0 y1 y2) (garmentref27_SameZones.l0 (k + 1) y0 y1 y2))
 | 0 => fun _ _ _ r h => by simp [garmentref27_SameZones.l0] at h
 | k + 1 => by
  have ih0 := garmentref27_SameZones.mono_l k
  ·intro y0 y1 y2
   unfold garmentref27_SameZones.l0
   repeat' first
   | (with_reducible exact ih0 _ _ _)
   | (with_reducible exact LeO.refl _)
   | (with_reducible exact LeO.none _)
   | (with_reducible refine LeO.ite ?_ ?_)
   | (with_reducible refine LeO.bind ?_ (fun _ => ?_))
   | exact ih0 _ _ _
   | exact LeO.none _
   | refine LeO.ite ?_ ?_
   | refine LeO.bind ?_ (fun _ => ?_)
theorem garmentref27_SameZones.mono : ∀ a0 a1 k, LeO (garmentref27_SameZones.f k a0 a1) (garmentref27_SameZones.f (k + 1) a0 a1) := by
 intro a0 a1 k; have ih0 := garmentref27_SameZones.mono_l k
 unfold garmentref27_SameZones.f
 repeat' first
  | (with_reducible exact ih0 _ _ _)
  | (with_reducible exact LeO.refl _)
  | (with_reducible exact LeO.none _)
  | (with_reducible refine LeO.ite ?_ ?_)
  | (with_reducible refine LeO.bind ?_ (fun _ => ?_))
  | exact ih0 _ _ _
  | exact LeO.none _
  | refine LeO.ite ?_ ?_
  | refine LeO.bind ?_ (fun _ => ?_)
set_option maxHeartbeats 8000000 in
set_option maxRecDepth 100000 in
theorem garmentref27_SameZones.calls (k : Nat) (A0 : Option Addr) (c0 : Nat) (l0 : List (S44)) (A1 : Option Addr) (c1 : Nat) (l1 : List (S44)) (r : Bool) (w : World) (hr0 : Kd.C k44 w A0 l0.length l0) (hc0 : l0.length ≤ c0) (hr1 : Kd.C k44 w A1 l1.length l1) (hc1 : l1.length ≤ c1) (h : garmentref27_SameZones.f k l0 l1 = some r) :
  Calls Tryz.prog 19 #[.slice A0 l0.length c0, .slice A1 l1.length c1] w fun e w' => e = .returned (.bool r) ∧ Drawn0 w w' := by
 have hu44 := Tryz.underlying44; have HR0 := Aside0.mk hr0; have HC0 := Aside0.mk hc0; clear hr0 hc0; have HR1 := Aside0.mk hr1; have HC1 := Aside0.mk hc1; clear hr1 hc1; have H : (if (l0.length : Int) = (l1.length : Int) then (garmentref27_SameZones.l0 k l0 l1 0) else (some false)) = some r := h; clear h
 by_cases c3 : (l0.length : Int) = (l1.length : Int)
 ·rw [if_pos c3] at H; have c3b0 : ((l0.length : Int) == (l1.length : Int)) = true := beq_iff_eq.mpr c3; have c3b1 : ((l0.length : Int) != (l1.length : Int)) = false := bne_eq_false_iff_eq.mpr c3
  have c3b2 : (l0.length == l1.length) = true := by first | simpa using c3 | (simp at c3 ⊢; omega)
  clear c3; have H' := Aside0.mk H; clear H
  go_enter Tryz.func19, Tryz.ntmps19
  go_wp2
  repeat (go_quiet (fail); try go_wp2)
  go_loopg [5] k (fun kq v5 w' => ∃ (x5_1 : Int), v5 = .int .i64 x5_1 ∧ Aside0 (garmentref27_SameZones.l0 kq l0 l1 x5_1 = some r) ∧ Aside0 (kq ≤ k) ∧ Drawn0 w w')
  case atStart => exact ⟨(0), (by first | rfl | (simp; done) | (simp [*]; done)), H', ⟨Nat.le_refl _⟩, by repeat (first | exact Drawn0.refl _ | apply Drawn0.step)⟩
  case round =>
   clear H'
   try clear c1
   try clear p2
   try clear c3
   try clear c3b0
   try clear c3b1
   try clear c3b2
   obtain ⟨x5_1, rfl, HA, HK1, ⟨m1, rfl⟩⟩ := hrel
   cases gk with
   | zero => exact absurd HA.out (by simp [garmentref27_SameZones.l0])
   | succ k1 =>
    have H := HA.out; clear HA; simp only [garmentref27_SameZones.l0] at H
    by_cases c4 : x5_1 < (l0.length : Int)
    ·rw [if_pos c4] at H; have c4b0 : decide (x5_1 < (l0.length : Int)) = true := decide_eq_true c4; clear c4
     by_cases c5 : 0 ≤ x5_1
     ·rw [if_pos c5] at H; have c5b0 : decide (0 ≤ x5_1) = true := decide_eq_true c5; clear c5
      by_cases c6 : x5_1 < (l1.length : Int)
      ·rw [if_pos c6] at H; have c6b0 : decide (x5_1 < (l1.length : Int)) = true := decide_eq_true c6; clear c6
       by_cases c7 : (!(((rd_T44 l0 x5_1).f0) == ((rd_T44 l1 x5_1).f0)) || (!(((rd_T44 l0 x5_1).f1) == ((rd_T44 l1 x5_1).f1)))) = true
       ·rw [if_pos c7] at H; have c7b0 : (!(((rd_T44 l0 x5_1).f0) == ((rd_T44 l1 x5_1).f0)) || (!(((rd_T44 l0 x5_1).f1) == ((rd_T44 l1 x5_1).f1)))) = true := c7; clear c7; obtain rfl := Option.some.inj H; have p159 : 0 ≤ (x5_1 : Int) := oda; have q159 : x5_1 < (l0.length : Int) := oda; obtain ⟨ad159, e159, hx159_0, hx159_1⟩ := at_T44 HR0.out x5_1 p159 q159; cases e159; replace p159 := eq_true p159; replace q159 := eq_true q159; have p160 : 0 ≤ (x5_1 : Int) := oda; have q160 : x5_1 < (l1.length : Int) := oda; obtain ⟨ad160, e160, hx160_0, hx160_1⟩ := at_T44 HR1.out x5_1 p160 q160; cases e160; replace p160 := eq_true p160; replace q160 := eq_true q160
        go_wp2
        repeat (go_quiet (fail); try go_wp2)
        go_ret
        exact ⟨by first | rfl | (simp; done) | (simp [*]; done), by repeat (first | exact Drawn0.refl _ | apply Drawn0.step)⟩
       ·rw [if_neg c7] at H
        have c7b0 : (!(((rd_T44 l0 x5_1).f0) == ((rd_T44 l1 x5_1).f0)) || (!(((rd_T44 l0 x5_1).f1) == ((rd_T44 l1 x5_1).f1)))) = false := by simpa using c7
        clear c7; have H' := Aside0.mk H; clear H; have p159 : 0 ≤ (x5_1 : Int) := oda; have q159 : x5_1 < (l0.length : Int) := oda; obtain ⟨ad159, e159, hx159_0, hx159_1⟩ := at_T44 HR0.out x5_1 p159 q159; cases e159; replace p159 := eq_true p159; replace q159 := eq_true q159; have p160 : 0 ≤ (x5_1 : Int) := oda; have q160 : x5_1 < (l1.length : Int) := oda; obtain ⟨ad160, e160, hx160_0, hx160_1⟩ := at_T44 HR1.out x5_1 p160 q160; cases e160; replace p160 := eq_true p160; replace q160 := eq_true q160
        go_wp2
        repeat (go_quiet (fail); try go_wp2)
        go_roundg k1
        case measure => have := HK1.out; omega
        case rel => exact ⟨(wrap64 (x5_1 + 1)), (by first | rfl | (simp; done) | (simp [*]; done)), H', ⟨by have := HK1.out; omega⟩, by repeat (first | exact Drawn0.refl _ | apply Drawn0.step)⟩
      ·rw [if_neg c6] at H; exact absurd H (by simp)
     ·rw [if_neg c5] at H; exact absurd H (by simp)
    ·rw [if_neg c4] at H; have c4b0 : decide (x5_1 < (l0.length : Int)) = false := decide_eq_false c4; clear c4; obtain rfl := Option.some.inj H
     go_wp2
     repeat (go_quiet (fail); try go_wp2)
     go_ret
     exact ⟨by first | rfl | (simp; done) | (simp [*]; done), by repeat (first | exact Drawn0.refl _ | apply Drawn0.step)⟩
 ·rw [if_neg c3] at H; have c3b0 : ((l0.length : Int) == (l1.length : Int)) = false := beq_eq_false_iff_ne.mpr c3; have c3b1 : ((l0.length : Int) != (l1.length : Int)) = true := bne_iff_ne.mpr c3
  have c3b2 : (l0.length == l1.length) = false := by first | simpa using c3 | (simp at c3 ⊢; omega)
  obtain rfl := Option.some.inj H
  go_enter Tryz.func19, Tryz.ntmps19
  go_wp2
  repeat (go_quiet (fail); try go_wp2)
  go_ret
  exact ⟨by first | rfl | (simp; done) | (simp [*]; done), by repeat (first | exact Drawn0.refl _ | apply Drawn0.step)⟩

end Go.Proofs.YtdblkmnbkpphjaaGreatDoor.P
namespace Go.Proofs.YtdblkmnbkpphjaaGreatDoor.P
open Go.RowKit Go.Proofs.YtdblkmnbkpphjaaGreatDoorW.PrintWords Go.Proofs.YtdblkmnbkpphjaaGreatDoorW.PrintLast Go.Proofs.YtdblkmnbkpphjaaGreatDoorW.PrintMore Go.Proofs.YtdblkmnbkpphjaaGreatDoorW.PrintAuto
attribute [local go_sem] max2_int min2_int max_two min_two max_three min_three max_four min_four   -- for this text's walks alone
set_option linter.unusedVariables false
set_option linter.unusedSimpArgs false

--FLAGS making
--IMPORT Derived.Test.YtdblkmnbkpphjaaGreatDoorIdxS
def roll_has.f (l0 : List S26) (a1 : ByteArray) : Option (Bool) := some (l0.any fun r => r.f0.toList == a1.toList)
set_option maxHeartbeats 1000000 in
theorem roll_has.one (x : S26) (A6 : Option Addr) (c6 : Nat) (id : ByteArray) (ad : Addr) (W : World) (hc : W.cell? ad = some (.string id)) :
  Calls Tryz.prog 50 #[.agg #[.string x.f0, .int .i64 x.f1, .int .i64 x.f2, .int .i64 x.f3.f0, .int .i64 x.f3.f1, .int .i64 x.f3.f2, .slice A6 x.f4.length c6], .pointer (some ad)] W fun e w' => e = .returned (.bool (x.f0.toList == id.toList)) ∧ Below W.heap.size W w' := by
 have hlt := World.block_lt_of_cell? W _ hc
 have hc2 : ∀ o, (W.alloc o).cell? ad = some (.string id) := fun o => pw_cell_below (below_alloc (Below.refl _ _) o) hc
 go_enter Tryz.func50, Tryz.ntmps50
 go_wp2
 go_ret
 exact ⟨rfl, below_alloc (Below.refl _ _) _⟩
theorem roll_has.calls (A0 : Option Addr) (c0 : Nat) (l0 : List S26) (a1 : ByteArray) (r : Bool) (w : World) (hr0 : Kd.C k26 w A0 l0.length l0) (hc0 : l0.length ≤ c0) (h : roll_has.f l0 a1 = some r) :
  Calls Tryz.prog 30 #[.slice A0 l0.length c0, .string a1] w fun e w' => e = .returned (.bool r) ∧ Below w.heap.size w w' := by
 have H : Hid (∀ (W : World) (ad : Addr), W.cell? ad = some (.string a1) → Kd.C k26 W A0 l0.length l0 → Calls Tryz.prog 49 #[.slice A0 l0.length c0, .func (.func 50) #[] #[.pointer (some ad)]] W fun e w' => e = .returned (.bool r) ∧ Below W.heap.size W w') := fun W ad hW hC => by
  have hh := containsFunc_T26 50 #[.pointer (some ad)] (enters_of Tryz.func50 (by decide) rfl) (fun r => r.f0.toList == a1.toList) A0 c0 l0 W hC (fun x _ A6 c6 _ _ W2 hB => roll_has.one x A6 c6 a1 ad W2 (pw_cell_below hB hW)); rw [Option.some.inj h] at hh; exact hh
 have HR := Aside0.mk hr0; clear h hr0
 go_enter Tryz.func30, Tryz.ntmps30
 go_wp2_with (go_at_call 49; refine (H.out _ _ (by go_simp) (Kd.C_alloc HR.out _)).mono ?_; rintro e w2 ⟨rfl, hb⟩)
 go_ret
 exact ⟨rfl, below_step (below_alloc (Below.refl _ _) _) hb⟩

end Go.Proofs.YtdblkmnbkpphjaaGreatDoor.P
namespace Go.Proofs.YtdblkmnbkpphjaaGreatDoor.P
open Go.RowKit Go.Proofs.YtdblkmnbkpphjaaGreatDoorW.PrintWords Go.Proofs.YtdblkmnbkpphjaaGreatDoorW.PrintLast Go.Proofs.YtdblkmnbkpphjaaGreatDoorW.PrintMore Go.Proofs.YtdblkmnbkpphjaaGreatDoorW.PrintAuto
attribute [local go_sem] max2_int min2_int max_two min_two max_three min_three max_four min_four   -- for this text's walks alone
set_option linter.unusedVariables false
set_option linter.unusedSimpArgs false

--FLAGS making laid
--IMPORT Derived.Test.YtdblkmnbkpphjaaGreatDoorGL
def strconv_Itoa_52.f (a0 : Int) : Option (ByteArray) := if -9223372036854775808 ≤ a0 ∧ a0 ≤ 9223372036854775807 then some ⟨(itoaL a0).toArray⟩ else none
theorem strconv_Itoa_52.calls (a0 : Int) (r : ByteArray) (w : World) (h : strconv_Itoa_52.f a0 = some r) (hG : Aside0 (GL w)) :
  Calls Tryz.prog 52 #[.int .i64 a0] w fun e w' => e = .returned (.string r) ∧ Below w.heap.size w w' := by
 unfold strconv_Itoa_52.f at h
 split at h
 ·rename_i hb
  obtain rfl := Option.some.inj h; rw [itoaL_eq a0 hb.1 hb.2]; refine (Tryz.strconv_Itoa a0 hb.1 hb.2 w hG.out.p10).mono ?_
  rintro e w' ⟨rfl, k, os, rfl⟩
  exact ⟨rfl, Lib.below_grow _ w (Nat.le_refl _) k os⟩
 ·cases h

end Go.Proofs.YtdblkmnbkpphjaaGreatDoor.P
namespace Go.Proofs.YtdblkmnbkpphjaaGreatDoor.P
open Go.RowKit Go.Proofs.YtdblkmnbkpphjaaGreatDoorW.PrintWords Go.Proofs.YtdblkmnbkpphjaaGreatDoorW.PrintLast Go.Proofs.YtdblkmnbkpphjaaGreatDoorW.PrintMore Go.Proofs.YtdblkmnbkpphjaaGreatDoorW.PrintAuto
attribute [local go_sem] max2_int min2_int max_two min_two max_three min_three max_four min_four   -- for this text's walks alone
set_option linter.unusedVariables false
set_option linter.unusedSimpArgs false

--FLAGS making laid
--IMPORT Derived.Test.YtdblkmnbkpphjaaGreatDoorBld
def flawL (f : S46) : List UInt8 := [32, 102, 108, 97, 119] ++ textL [f.f0, f.f1, f.f2, f.f3]
theorem lit_cell {w : World} {g t : Nat} {ns : List Int} (h : w.heap[g]? = some (.cells (ns.map (Value.int .i64)).toArray t (0, 0))) (k : Nat) (hk : k < ns.length) : w.cell? ⟨g, k, none⟩ = some (.int .i64 (rd ns (k : Int))) := by
 rw [blk_cell h k]
 simp [rd, hk]
theorem lit_in64 {ns : List Int} (h : ns.all in64 = true) (k : Nat) (hk : k < ns.length) : in64 (rd ns (k : Int)) = true := by
 have e : rd ns (k : Int) = ns[k] := by simp [rd, hk]
 rw [e]; exact List.all_eq_true.1 h _ (List.getElem_mem hk)
def rollL (id : List UInt8) (wd ln a b c : Int) (fl : List S46) : List UInt8 := [114, 111, 108, 108, 32] ++ id ++ textL [ln, wd, a, b, c] ++ fl.flatMap flawL
theorem flaws_length (l : List S46) : (l.flatMap flawL).length ≤ 93 * l.length := by
 induction l with
 | nil => simp
 | cons f l ih =>
  have h := textL_length [f.f0, f.f1, f.f2, f.f3]; simp only [List.flatMap_cons, List.length_append, List.length_cons, flawL, List.length_nil] at *
  omega
def flaw64 (f : S46) : Bool := [f.f0, f.f1, f.f2, f.f3].all in64
def roll_text.f (a0_0 : ByteArray) (a0_1 : Int) (a0_2 : Int) (a0_3 : Int) (a0_4 : Int) (a0_5 : Int) (l0_6 : List S46) : Option (ByteArray) := if a0_0.size ≤ 1000000 ∧ [a0_2, a0_1, a0_3, a0_4, a0_5].all in64 = true ∧ l0_6.length ≤ 1000000 ∧ l0_6.all flaw64 = true then some ⟨(rollL a0_0.data.toList a0_1 a0_2 a0_3 a0_4 a0_5 l0_6).toArray⟩ else none
set_option maxHeartbeats 4000000 in
set_option maxRecDepth 100000 in
theorem roll_text.calls (a0_0 : ByteArray) (a0_1 : Int) (a0_2 : Int) (a0_3 : Int) (a0_4 : Int) (a0_5 : Int) (A0_6 : Option Addr) (c0_6 : Nat) (l0_6 : List S46) (r : ByteArray) (w : World) (hr0_6 : Kd.C k46 w A0_6 l0_6.length l0_6) (hc0_6 : l0_6.length ≤ c0_6) (h : roll_text.f a0_0 a0_1 a0_2 a0_3 a0_4 a0_5 l0_6 = some r) (hG : Aside0 (GL w)) :
  Calls Tryz.prog 32 #[.agg #[.string a0_0, .int .i64 a0_1, .int .i64 a0_2, .int .i64 a0_3, .int .i64 a0_4, .int .i64 a0_5, .slice A0_6 l0_6.length c0_6]] w fun e w' => e = .returned (.string r) ∧ Below w.heap.size w w' := by
 unfold roll_text.f at h
 split at h
 ·rename_i hb
  obtain rfl := Option.some.inj h; obtain ⟨hid, h5, hlen, hall⟩ := hb; clear h; have HR0 := Aside0.mk hr0_6; have H5 := Aside0.mk h5; have HA := Aside0.mk hall; clear hr0_6 h5 hall
  go_enter Tryz.func32, Tryz.ntmps32
  go_wp2_with fail
  have HBu := Aside0.mk (bld_new (w.alloc (.cells #[.string a0_0, .int .i64 a0_1, .int .i64 a0_2, .int .i64 a0_3, .int .i64 a0_4, .int .i64 a0_5, .slice A0_6 l0_6.length c0_6] 26)) w.heap.size (by simp)); have BK := Aside0.mk (blk_alloc (heap_alloc_new w (.cells #[.string a0_0, .int .i64 a0_1, .int .i64 a0_2, .int .i64 a0_3, .int .i64 a0_4, .int .i64 a0_5, .slice A0_6 l0_6.length c0_6] 26)) (.cells #[.pointer none, .slice none 0 0] 55)); have HB := Aside0.mk (below_alloc (below_alloc (Below.refl w.heap.size w) (.cells #[.string a0_0, .int .i64 a0_1, .int .i64 a0_2, .int .i64 a0_3, .int .i64 a0_4, .int .i64 a0_5, .slice A0_6 l0_6.length c0_6] 26)) (.cells #[.pointer none, .slice none 0 0] 55))
  have hsz : (w.alloc (.cells #[.string a0_0, .int .i64 a0_1, .int .i64 a0_2, .int .i64 a0_3, .int .i64 a0_4, .int .i64 a0_5, .slice A0_6 l0_6.length c0_6] 26)).heap.size = w.heap.size + 1 := by simp
  rw [hsz] at HBu; clear hsz; refine (bld_write w.heap.size (w.heap.size + 1) [] _ _ HBu.out (by rw [ByteArray.size_append]; show 0 + (5 + a0_0.size) ≤ _; omega) (HB.out.size)).mono ?_
  rintro e w1 ⟨rfl, hbu, hb, hk⟩
  replace HBu := Aside0.mk hbu; replace BK := Aside0.mk (kept_blk BK.out hk (by simp) (by decide)); replace HB := Aside0.mk (HB.out.trans hb); clear hbu hb hk; have c0 := bc BK.out 0 (.string a0_0) rfl; have c1 := bc BK.out 1 (.int .i64 a0_1) rfl; have c2 := bc BK.out 2 (.int .i64 a0_2) rfl; have c3 := bc BK.out 3 (.int .i64 a0_3) rfl; have c4 := bc BK.out 4 (.int .i64 a0_4) rfl; have c5 := bc BK.out 5 (.int .i64 a0_5) rfl; have c6 := bc BK.out 6 (.slice A0_6 l0_6.length c0_6) rfl
  go_wp2_with fail
  have BL := Aside0.mk (show (w1.alloc (.cells #[.int .i64 a0_2, .int .i64 a0_1, .int .i64 a0_3, .int .i64 a0_4, .int .i64 a0_5] 3)).heap[w1.heap.size]? = some (.cells ([a0_2, a0_1, a0_3, a0_4, a0_5].map (Value.int .i64)).toArray 3 (0, 0)) from heap_alloc_new w1 _)
  have hg1 : w.heap.size + 1 < w1.heap.size := by have := HB.out.size; have := bld_lt HBu.out; omega
  clear c0 c1 c2 c3 c4 c5 c6
  go_loopw [29] (fun i wr => ∃ k : Nat, k ≤ 5 ∧ i = .int .i64 k ∧ Aside0 (Bld w.heap.size (w.heap.size + 1) (([] ++ ((⟨#[114, 111, 108, 108, 32]⟩ : ByteArray) ++ a0_0).data.toList) ++ textL ([a0_2, a0_1, a0_3, a0_4, a0_5].take k)) wr) ∧ Aside0 (wr.heap[w.heap.size]? = some (.cells #[.string a0_0, .int .i64 a0_1, .int .i64 a0_2, .int .i64 a0_3, .int .i64 a0_4, .int .i64 a0_5, .slice A0_6 l0_6.length c0_6] 26 (0, 0))) ∧ Aside0 (wr.heap[w1.heap.size]? = some (.cells ([a0_2, a0_1, a0_3, a0_4, a0_5].map (Value.int .i64)).toArray 3 (0, 0))) ∧ Aside0 (Below w.heap.size w wr)) (fun i _ => 5 - (intOf i).toNat)
  case atStart => exact ⟨0, Nat.zero_le _, rfl, ⟨by simpa [textL] using bld_below HBu.out (below_alloc (Below.refl _ _) _)⟩, ⟨blk_alloc BK.out _⟩, BL, ⟨below_alloc HB.out _⟩⟩
  case round =>
   obtain ⟨k, hk, rfl, HBu, BK, BL, HB⟩ := hrel
   by_cases hlt : k < 5
   ·have hx : wr.cell? ⟨w1.heap.size, k, none⟩ = some (.int .i64 (rd [a0_2, a0_1, a0_3, a0_4, a0_5] (k : Int))) := lit_cell BL.out k hlt; have hn : in64 (rd [a0_2, a0_1, a0_3, a0_4, a0_5] (k : Int)) = true := lit_in64 H5.out k hlt
    have HS : Hid (textL ([a0_2, a0_1, a0_3, a0_4, a0_5].take (k + 1)) = textL ([a0_2, a0_1, a0_3, a0_4, a0_5].take k) ++ (32 :: itoaL (rd [a0_2, a0_1, a0_3, a0_4, a0_5] (k : Int)))) := by
     rw [take_snoc_getD _ 0 k (show k < [a0_2, a0_1, a0_3, a0_4, a0_5].length from hlt), textL_snoc]; rfl
    have hI : ∀ W : World, Aside0 (GL W) → Calls Tryz.prog 52 #[.int .i64 (rd [a0_2, a0_1, a0_3, a0_4, a0_5] (k : Int))] W fun e w' => e = .returned (.string ⟨(itoaL (rd [a0_2, a0_1, a0_3, a0_4, a0_5] (k : Int))).toArray⟩) ∧ Below W.heap.size W w' := fun W hW =>
     strconv_Itoa_52.calls _ _ W (by unfold strconv_Itoa_52.f; rw [if_pos (by simpa [in64] using hn)]) hW
    have HI := Lib.hid hI; have hxl := itoaL_length (rd [a0_2, a0_1, a0_3, a0_4, a0_5] (k : Int)); have htl := textL_length ([a0_2, a0_1, a0_3, a0_4, a0_5].take k)
    have htk : ([a0_2, a0_1, a0_3, a0_4, a0_5].take k).length ≤ 5 := by rw [List.length_take]; simp; omega
    clear hn hI; generalize rd [a0_2, a0_1, a0_3, a0_4, a0_5] (k : Int) = n at *; generalize hT : textL ([a0_2, a0_1, a0_3, a0_4, a0_5].take k) = T at *; clear hT; generalize itoaL n = x at *; have hsx : (⟨x.toArray⟩ : ByteArray).size = x.length := Lib.size_mk _
    go_wp2_with fail
    refine (HI.out _ (Aside0.mk (GL.below hG.out HB.out))).mono ?_
    rintro e w2 ⟨rfl, hb2⟩
    replace HBu := Aside0.mk (bld_below HBu.out hb2); replace BK := Aside0.mk (blk_below BK.out hb2); replace BL := Aside0.mk (blk_below BL.out hb2); replace HB := Aside0.mk (below_step HB.out hb2); clear hb2 hx
    have hs1 : 1 + (⟨x.toArray⟩ : ByteArray).size ≤ 9223372036854775807 := by rw [Lib.size_mk]; omega
    have hs2 := eq_true hs1; have hs3 : decide (1 + (⟨x.toArray⟩ : ByteArray).size ≤ 9223372036854775807) = true := decide_eq_true hs1; have hs4 : (9223372036854775807 < 1 + (⟨x.toArray⟩ : ByteArray).size) = False := eq_false (Nat.not_lt.2 hs1)
    go_wp2_with fail
    refine (bld_write w.heap.size (w.heap.size + 1) _ _ _ HBu.out (by rw [ByteArray.size_append, hsx, show (⟨#[32]⟩ : ByteArray).size = 1 from rfl]; simp; omega) HB.out.size).mono ?_
    rintro e w3 ⟨rfl, hbu, hb, hk⟩
    replace HBu := Aside0.mk hbu; replace BK := Aside0.mk (kept_blk BK.out hk (by simp) (by decide)); replace BL := Aside0.mk (kept_blk BL.out hk (by omega) (by decide)); replace HB := Aside0.mk (HB.out.trans hb); clear hbu hb hk hs1 hs2 hs3 hs4
    go_wp2
    go_roundw
    case rel => exact ⟨k + 1, by omega, by go_num, ⟨by rw [HS.out]; simpa using HBu.out⟩, BK, BL, HB⟩
    case measure => simp [intOf]; omega
   ·obtain rfl : k = 5 := by omega
    have c6 := bc BK.out 6 (.slice A0_6 l0_6.length c0_6) rfl; clear hlt hk
    go_wp2_with fail
    clear c6 BL
    obtain ⟨base, hbase, hbl⟩ : ∃ base, Hid (base = [] ++ ((⟨#[114, 111, 108, 108, 32]⟩ : ByteArray) ++ a0_0).data.toList ++ textL [a0_2, a0_1, a0_3, a0_4, a0_5]) ∧ base.length ≤ 1000200 := ⟨_, Lib.hid rfl, by
     have h := textL_length [a0_2, a0_1, a0_3, a0_4, a0_5]
     simp at *; omega⟩
    replace HBu : Aside0 (Bld w.heap.size (w.heap.size + 1) base wr) := Aside0.mk (by rw [hbase.out]; exact HBu.out)
    go_loopw [41] (fun i wr => ∃ k : Nat, k ≤ l0_6.length ∧ i = .int .i64 k ∧ Aside0 (Bld w.heap.size (w.heap.size + 1) (base ++ (l0_6.take k).flatMap flawL) wr) ∧ Aside0 (Below w.heap.size w wr)) (fun i _ => l0_6.length - (intOf i).toNat)
    case atStart => exact ⟨0, Nat.zero_le _, rfl, ⟨by simpa using HBu.out⟩, HB⟩
    case round =>
     obtain ⟨k, hk, rfl, HBu, HB⟩ := hrel
     by_cases hlt : k < l0_6.length
     ·have HC := Aside0.mk (Kd.C_below HR0.out HB.out); obtain ⟨ad, hA, q0, q1, q2, q3⟩ := at_T46 HC.out (k : Int) (by omega) (by omega); subst hA; simp only [Int.toNat_natCast] at q0 q1 q2 q3
      have hf : flaw64 (rd_T46 l0_6 (k : Int)) = true := by
       have e : rd_T46 l0_6 (k : Int) = l0_6[k] := by show l0_6.getD (Int.toNat (k : Int)) _ = _; rw [Int.toNat_natCast, List.getD_eq_getElem?_getD, List.getElem?_eq_getElem hlt]; rfl
       rw [e]; exact List.all_eq_true.1 HA.out _ (List.getElem_mem hlt)
      have HS : Hid ((l0_6.take (k + 1)).flatMap flawL = (l0_6.take k).flatMap flawL ++ flawL (rd_T46 l0_6 (k : Int))) := by
       have e : rd_T46 l0_6 (k : Int) = l0_6[k] := by show l0_6.getD (Int.toNat (k : Int)) _ = _; rw [Int.toNat_natCast, List.getD_eq_getElem?_getD, List.getElem?_eq_getElem hlt]; rfl
       exact Lib.hid (by rw [e, List.take_succ_eq_append_getElem hlt, List.flatMap_append]; simp)
      have hfl := flaws_length (l0_6.take k)
      have htk : (l0_6.take k).length ≤ k := by rw [List.length_take]; omega
      generalize rd_T46 l0_6 (k : Int) = f at *; generalize (l0_6.take k).flatMap flawL = T at *
      go_wp2_with fail
      clear q0 q1 q2 q3 HC; have BF := Aside0.mk (heap_alloc_new wr (.cells #[.int .i64 f.f0, .int .i64 f.f1, .int .i64 f.f2, .int .i64 f.f3] 46)); have hg2 : w.heap.size + 1 < wr.heap.size := bld_lt HBu.out; replace HBu := Aside0.mk (bld_below HBu.out (below_alloc (Below.refl _ _) (.cells #[.int .i64 f.f0, .int .i64 f.f1, .int .i64 f.f2, .int .i64 f.f3] 46))); replace HB := Aside0.mk (below_alloc HB.out (.cells #[.int .i64 f.f0, .int .i64 f.f1, .int .i64 f.f2, .int .i64 f.f3] 46)); refine (bld_write w.heap.size (w.heap.size + 1) _ _ _ HBu.out (by rw [show (⟨#[32, 102, 108, 97, 119]⟩ : ByteArray).size = 5 from rfl]; simp; omega) HB.out.size).mono ?_
      rintro e w2 ⟨rfl, hbu, hb, hk2⟩
      replace HBu := Aside0.mk hbu; replace BF := Aside0.mk (kept_blk BF.out hk2 (by omega) (by decide)); replace HB := Aside0.mk (HB.out.trans hb); clear hbu hb hk2; have d0 := bc BF.out 0 (.int .i64 f.f0) rfl; have d1 := bc BF.out 1 (.int .i64 f.f1) rfl; have d2 := bc BF.out 2 (.int .i64 f.f2) rfl; have d3 := bc BF.out 3 (.int .i64 f.f3) rfl
      go_wp2_with fail
      have BL := Aside0.mk (show (w2.alloc (.cells #[.int .i64 f.f0, .int .i64 f.f1, .int .i64 f.f2, .int .i64 f.f3] 3)).heap[w2.heap.size]? = some (.cells ([f.f0, f.f1, f.f2, f.f3].map (Value.int .i64)).toArray 3 (0, 0)) from heap_alloc_new w2 _); have hg3 : w.heap.size + 1 < w2.heap.size := bld_lt HBu.out; replace HBu := Aside0.mk (bld_below HBu.out (below_alloc (Below.refl _ _) (.cells #[.int .i64 f.f0, .int .i64 f.f1, .int .i64 f.f2, .int .i64 f.f3] 3))); replace HB := Aside0.mk (below_alloc HB.out (.cells #[.int .i64 f.f0, .int .i64 f.f1, .int .i64 f.f2, .int .i64 f.f3] 3)); have HF := Aside0.mk (show [f.f0, f.f1, f.f2, f.f3].all in64 = true from hf); clear d0 d1 d2 d3 hf BF; obtain ⟨b2, hb2, hb2l⟩ : ∃ b2, Hid (b2 = base ++ T ++ (⟨#[32, 102, 108, 97, 119]⟩ : ByteArray).data.toList) ∧ b2.length ≤ base.length + T.length + 5 := ⟨_, Lib.hid rfl, by simp; omega⟩; replace HBu : Aside0 (Bld w.heap.size (w.heap.size + 1) b2 _) := Aside0.mk (by rw [hb2.out]; exact HBu.out)
      go_loopw [56] (fun i wr => ∃ j : Nat, j ≤ 4 ∧ i = .int .i64 j ∧ Aside0 (Bld w.heap.size (w.heap.size + 1) (b2 ++ textL ([f.f0, f.f1, f.f2, f.f3].take j)) wr) ∧ Aside0 (wr.heap[w2.heap.size]? = some (.cells ([f.f0, f.f1, f.f2, f.f3].map (Value.int .i64)).toArray 3 (0, 0))) ∧ Aside0 (Below w.heap.size w wr)) (fun i _ => 4 - (intOf i).toNat)
      case atStart => exact ⟨0, Nat.zero_le _, rfl, ⟨by simpa [textL] using HBu.out⟩, BL, HB⟩
      case round =>
       obtain ⟨j, hj, rfl, HBu, BL, HB⟩ := hrel
       by_cases hlt : j < 4
       ·have hx : wr.cell? ⟨w2.heap.size, j, none⟩ = some (.int .i64 (rd [f.f0, f.f1, f.f2, f.f3] (j : Int))) := lit_cell BL.out j hlt; have hn : in64 (rd [f.f0, f.f1, f.f2, f.f3] (j : Int)) = true := lit_in64 HF.out j hlt
        have HS2 : Hid (textL ([f.f0, f.f1, f.f2, f.f3].take (j + 1)) = textL ([f.f0, f.f1, f.f2, f.f3].take j) ++ (32 :: itoaL (rd [f.f0, f.f1, f.f2, f.f3] (j : Int)))) := by
         rw [take_snoc_getD _ 0 j (show j < [f.f0, f.f1, f.f2, f.f3].length from hlt), textL_snoc]; rfl
        have hI : ∀ W : World, Aside0 (GL W) → Calls Tryz.prog 52 #[.int .i64 (rd [f.f0, f.f1, f.f2, f.f3] (j : Int))] W fun e w' => e = .returned (.string ⟨(itoaL (rd [f.f0, f.f1, f.f2, f.f3] (j : Int))).toArray⟩) ∧ Below W.heap.size W w' := fun W hW =>
         strconv_Itoa_52.calls _ _ W (by unfold strconv_Itoa_52.f; rw [if_pos (by simpa [in64] using hn)]) hW
        have HI := Lib.hid hI; have hxl := itoaL_length (rd [f.f0, f.f1, f.f2, f.f3] (j : Int)); have htl := textL_length ([f.f0, f.f1, f.f2, f.f3].take j)
        have htj : ([f.f0, f.f1, f.f2, f.f3].take j).length ≤ 4 := by rw [List.length_take]; simp; omega
        clear hn hI; generalize rd [f.f0, f.f1, f.f2, f.f3] (j : Int) = n at *; generalize hU : textL ([f.f0, f.f1, f.f2, f.f3].take j) = U at *; clear hU; generalize itoaL n = x at *; have hsx : (⟨x.toArray⟩ : ByteArray).size = x.length := Lib.size_mk _
        go_wp2_with fail
        refine (HI.out _ (Aside0.mk (GL.below hG.out HB.out))).mono ?_
        rintro e w3 ⟨rfl, hbb⟩
        replace HBu := Aside0.mk (bld_below HBu.out hbb); replace BL := Aside0.mk (blk_below BL.out hbb); replace HB := Aside0.mk (below_step HB.out hbb); clear hbb hx
        have hs1 : 1 + (⟨x.toArray⟩ : ByteArray).size ≤ 9223372036854775807 := by rw [Lib.size_mk]; omega
        have hs2 := eq_true hs1; have hs3 : decide (1 + (⟨x.toArray⟩ : ByteArray).size ≤ 9223372036854775807) = true := decide_eq_true hs1; have hs4 : (9223372036854775807 < 1 + (⟨x.toArray⟩ : ByteArray).size) = False := eq_false (Nat.not_lt.2 hs1)
        go_wp2_with fail
        refine (bld_write w.heap.size (w.heap.size + 1) _ _ _ HBu.out (by rw [ByteArray.size_append, hsx, show (⟨#[32]⟩ : ByteArray).size = 1 from rfl]; simp; omega) HB.out.size).mono ?_
        rintro e w4 ⟨rfl, hbu, hbb, hkk⟩
        replace HBu := Aside0.mk hbu; replace BL := Aside0.mk (kept_blk BL.out hkk (by omega) (by decide)); replace HB := Aside0.mk (HB.out.trans hbb); clear hbu hbb hkk hs1 hs2 hs3 hs4
        go_wp2
        go_roundw
        case rel => exact ⟨j + 1, by omega, by go_num, ⟨by rw [HS2.out]; simpa using HBu.out⟩, BL, HB⟩
        case measure => simp [intOf]; omega
       ·obtain rfl : j = 4 := by omega
        clear hlt hj BL
        go_wp2_with fail
        exact ⟨⟨_, _, _, ⟨k + 1, by omega, by go_num, ⟨by rw [HS.out, flawL]; have h := HBu.out; rw [hb2.out] at h; simpa using h⟩⟩, rfl, rfl, rfl⟩, by simp [intOf]; omega⟩
     ·obtain rfl : k = l0_6.length := by omega
      clear hlt hk
      go_wp2_with fail
      refine (bld_string w.heap.size (w.heap.size + 1) _ _ HBu.out HB.out.size).mono ?_
      rintro e w2 ⟨rfl, _, hbb, _⟩
      go_wp2
      go_ret
      exact ⟨by rw [hbase.out]; simp [rollL], HB.out.trans hbb⟩
 ·cases h

end Go.Proofs.YtdblkmnbkpphjaaGreatDoor.P
namespace Go.Proofs.YtdblkmnbkpphjaaGreatDoor.P
open Go.RowKit Go.Proofs.YtdblkmnbkpphjaaGreatDoorW.PrintWords Go.Proofs.YtdblkmnbkpphjaaGreatDoorW.PrintLast Go.Proofs.YtdblkmnbkpphjaaGreatDoorW.PrintMore Go.Proofs.YtdblkmnbkpphjaaGreatDoorW.PrintAuto
attribute [local go_sem] max2_int min2_int max_two min_two max_three min_three max_four min_four   -- for this text's walks alone
set_option linter.unusedVariables false
set_option linter.unusedSimpArgs false

--FLAGS making laid rounds
--IMPORT Derived.Test.YtdblkmnbkpphjaaGreatDoorBld
--IMPORT Derived.StillTailTactics
def rollsL (k : Nat) (l : List S26) : Nat → Nat → List UInt8 → Option (ByteArray × Int)
 | 0, _, _ => none
 | n + 1, i, acc =>
  if i < l.length then
   if acc.length ≤ 10000000000 then
    (roll_Check.f k (rd_T26 l (i : Int)).f0 (rd_T26 l (i : Int)).f1 (rd_T26 l (i : Int)).f2 (rd_T26 l (i : Int)).f3.f0 (rd_T26 l (i : Int)).f3.f1 (rd_T26 l (i : Int)).f3.f2 (rd_T26 l (i : Int)).f4).bind fun e =>
    if e = 0 then
     (roll_has.f (l.take i) (rd_T26 l (i : Int)).f0).bind fun b =>
     if b = true then some (ByteArray.empty, 7) else
     (roll_text.f (rd_T26 l (i : Int)).f0 (rd_T26 l (i : Int)).f1 (rd_T26 l (i : Int)).f2 (rd_T26 l (i : Int)).f3.f0 (rd_T26 l (i : Int)).f3.f1 (rd_T26 l (i : Int)).f3.f2 (rd_T26 l (i : Int)).f4).bind fun t =>
     if t.size ≤ 10000000000 then rollsL k l n (i + 1) (acc ++ (t ++ ⟨#[10]⟩).data.toList) else none
    else some (ByteArray.empty, e)
   else none
  else some (⟨acc.toArray⟩, 0)
def roll_Print.f (k : Nat) (l0 : List S26) : Option (ByteArray × Int) := if l0.length > 20 then some (ByteArray.empty, 5) else rollsL k l0 21 0 []
theorem rollsL_mono (k : Nat) (l : List S26) : ∀ n i acc, LeO (rollsL k l n i acc) (rollsL (k + 1) l n i acc)
 | 0, _, _ => LeO.none _
 | n + 1, i, acc => by
  unfold rollsL
  exact LeO.ite (LeO.ite (LeO.bind (roll_Check.mono _ _ _ _ _ _ _ _) fun e => LeO.ite (LeO.bind (LeO.refl _) fun b => LeO.ite (LeO.refl _) (LeO.bind (LeO.refl _) fun t => LeO.ite (rollsL_mono k l n _ _) (LeO.refl _))) (LeO.refl _)) (LeO.refl _)) (LeO.refl _)
theorem roll_Print.mono : ∀ l0 k, LeO (roll_Print.f k l0) (roll_Print.f (k + 1) l0) := by
 intro l0 k
 unfold roll_Print.f
 exact LeO.ite (LeO.refl _) (rollsL_mono k l0 _ _ _)
set_option maxHeartbeats 4000000 in
set_option maxRecDepth 100000 in
theorem roll_Print.calls0 (k : Nat) (A0 : Option Addr) (c0 : Nat) (l0 : List S26) (r : ByteArray × Int) (w : World) (hr0 : Kd.C k26 w A0 l0.length l0) (hc0 : l0.length ≤ c0) (h : roll_Print.f k l0 = some r) (hG : Aside0 (GL w)) :
  Calls Tryz.prog 15 #[.slice A0 l0.length c0] w fun e w' => e = .returned (.tuple #[.string r.1, .int .i64 r.2]) ∧ Below w.heap.size w w' := by
 have HR := Aside0.mk hr0; have hlm : l0.length ≤ 9223372036854775807 := hr0.2.1; clear hr0
 unfold roll_Print.f at h
 go_enter Tryz.func15, Tryz.ntmps15
 by_cases hlong : l0.length > 20
 ·rw [if_pos hlong] at h; obtain rfl := Option.some.inj h
  go_wp2
  go_ret2
  exact ⟨rfl, Below.refl _ _⟩
 ·rw [if_neg hlong] at h
  go_wp2_with fail
  have HBu := Aside0.mk (bld_new w w.heap.size (Nat.le_refl _)); have HB := Aside0.mk (below_alloc (Below.refl w.heap.size w) (.cells #[.pointer none, .slice none 0 0] 55))
  go_loopw [13] (fun i wr => ∃ (j : Nat) (acc : List UInt8), j ≤ l0.length ∧ i = .int .i64 j ∧ Aside0 (rollsL k l0 (21 - j) j acc = some r) ∧ Aside0 (Bld w.heap.size w.heap.size acc wr) ∧ Aside0 (Below w.heap.size w wr)) (fun i _ => l0.length - (intOf i).toNat)
  case atStart => exact ⟨0, [], Nat.zero_le _, rfl, ⟨h⟩, HBu, HB⟩
  case round =>
   obtain ⟨j, acc, hj, rfl, H, HBu, HB⟩ := hrel
   have hfu : 21 - j = (20 - j) + 1 := by omega
   replace H := H.out; rw [hfu, rollsL] at H
   by_cases hlt : j < l0.length
   ·rw [if_pos hlt] at H
    by_cases hacc : acc.length ≤ 10000000000
    ·rw [if_pos hacc] at H; obtain ⟨ad, A6, c6, hA, q0, q1, q2, q3, q4, q5, q6, he0, he1⟩ := at_T26 (Kd.C_below HR.out HB.out) (j : Int) (by omega) (by omega); subst hA; simp only [Int.toNat_natCast] at q0 q1 q2 q3 q4 q5 q6; generalize rd_T26 l0 (j : Int) = x at *; obtain ⟨e, He, H⟩ := Option.bind_eq_some_iff.mp H; replace H := Aside0.mk H; replace He := Aside0.mk He; have H0 := Aside0.mk he0; have H1 := Aside0.mk he1; clear he0 he1 h
     go_wp2_with fail
     have BF := Aside0.mk (heap_alloc_new wr (.cells #[.string x.f0, .int .i64 x.f1, .int .i64 x.f2, .int .i64 x.f3.f0, .int .i64 x.f3.f1, .int .i64 x.f3.f2, .slice A6 x.f4.length c6] 26)); have hg2 : w.heap.size < wr.heap.size := bld_lt HBu.out; replace HBu := Aside0.mk (bld_below HBu.out (below_alloc (Below.refl _ _) (.cells #[.string x.f0, .int .i64 x.f1, .int .i64 x.f2, .int .i64 x.f3.f0, .int .i64 x.f3.f1, .int .i64 x.f3.f2, .slice A6 x.f4.length c6] 26))); replace HB := Aside0.mk (below_alloc HB.out (.cells #[.string x.f0, .int .i64 x.f1, .int .i64 x.f2, .int .i64 x.f3.f0, .int .i64 x.f3.f1, .int .i64 x.f3.f2, .slice A6 x.f4.length c6] 26)); replace H1 := Aside0.mk (Kd.C_alloc H1.out (.cells #[.string x.f0, .int .i64 x.f1, .int .i64 x.f2, .int .i64 x.f3.f0, .int .i64 x.f3.f1, .int .i64 x.f3.f2, .slice A6 x.f4.length c6] 26)); clear q0 q1 q2 q3 q4 q5 q6; refine (roll_Check.calls k _ _ _ _ _ _ A6 c6 x.f4 e _ H1.out H0.out He.out).mono ?_
     rintro e_ w2 ⟨rfl, hb⟩
     replace HBu := Aside0.mk (bld_below HBu.out hb); replace BF := Aside0.mk (blk_below BF.out hb); replace HB := Aside0.mk (below_step HB.out hb); replace H1 := Aside0.mk (Kd.C_below H1.out hb); clear hb He
     by_cases hz : e = 0
     ·subst hz; replace H := H.out; rw [if_pos rfl] at H; obtain ⟨b, Hb, H⟩ := Option.bind_eq_some_iff.mp H; replace H := Aside0.mk H; replace Hb := Aside0.mk Hb; have b0 := bc BF.out 0 (.string x.f0) rfl
      have hc2 : j ≤ c0 := by omega
      have hj0 : (0 : Int) ≤ (j : Int) := by omega
      have hjc : (j : Int) ≤ (c0 : Int) := by omega
      go_wp2_with fail
      go_still_tail 5, (by kernel_rfl)
      change wpList _ _ _ _ _ w2.drew
      have HD := Aside0.mk (below_drew1 (Below.refl w2.heap.size w2)); replace HBu := Aside0.mk (bld_below HBu.out HD.out); replace BF := Aside0.mk (blk_below BF.out HD.out); replace HB := Aside0.mk (below_step HB.out HD.out); replace H1 := Aside0.mk (Kd.C_below H1.out HD.out); clear HD b0; generalize w2.drew = w3 at *
      have hti : (l0.take j).length = j := by rw [List.length_take]; omega
      have HCT := Aside0.mk (Kd.C_take (Kd.C_below HR.out HB.out) (Nat.le_of_lt hlt)); rw [hti] at HCT; have HH := roll_has.calls (some ad) c0 (l0.take j) x.f0 b w3 (by rw [hti]; exact HCT.out) (by rw [hti]; exact hc2) Hb.out; rw [hti] at HH
      go_wp2_with fail
      refine HH.mono ?_
      rintro e_ w4 ⟨rfl, hb⟩
      replace HBu := Aside0.mk (bld_below HBu.out hb); replace BF := Aside0.mk (blk_below BF.out hb); replace HB := Aside0.mk (below_step HB.out hb); replace H1 := Aside0.mk (Kd.C_below H1.out hb); clear hb HH Hb HCT
      cases b with
      | true =>
       obtain rfl := Option.some.inj H.out
       go_wp2
       go_ret2
       exact ⟨rfl, HB.out⟩
      | false =>
       replace H := H.out; rw [if_neg (by decide)] at H; obtain ⟨t, Ht, H⟩ := Option.bind_eq_some_iff.mp H
       by_cases hts : t.size ≤ 10000000000
       ·rw [if_pos hts] at H; replace H := Aside0.mk H; replace Ht := Aside0.mk Ht; have b0 := bc BF.out 0 (.string x.f0) rfl; have b1 := bc BF.out 1 (.int .i64 x.f1) rfl; have b2 := bc BF.out 2 (.int .i64 x.f2) rfl; have b3 := bc BF.out 3 (.int .i64 x.f3.f0) rfl; have b4 := bc BF.out 4 (.int .i64 x.f3.f1) rfl; have b5 := bc BF.out 5 (.int .i64 x.f3.f2) rfl; have b6 := bc BF.out 6 (.slice A6 x.f4.length c6) rfl
        go_wp2_with fail
        refine (roll_text.calls _ _ _ _ _ _ A6 c6 x.f4 t _ H1.out H0.out Ht.out (Aside0.mk (GL.below hG.out HB.out))).mono ?_
        rintro e_ w5 ⟨rfl, hb⟩
        replace HBu := Aside0.mk (bld_below HBu.out hb); replace HB := Aside0.mk (below_step HB.out hb); clear hb Ht b0 b1 b2 b3 b4 b5 b6 BF H1
        have hs1 : t.size + 1 ≤ 9223372036854775807 := by omega
        have hs2 := eq_true hs1; have hs3 : decide (t.size + 1 ≤ 9223372036854775807) = true := decide_eq_true hs1; have hs4 : (9223372036854775807 < t.size + 1) = False := eq_false (Nat.not_lt.2 hs1)
        go_wp2_with fail
        refine (bld_write w.heap.size w.heap.size _ _ _ HBu.out (by rw [ByteArray.size_append, show (⟨#[10]⟩ : ByteArray).size = 1 from rfl]; omega) HB.out.size).mono ?_
        rintro e_ w6 ⟨rfl, hbu, hb, hk⟩
        replace HBu := Aside0.mk hbu; replace HB := Aside0.mk (HB.out.trans hb); clear hbu hb hk hs1 hs2 hs3 hs4
        go_wp2
        go_roundw
        case rel => exact ⟨j + 1, _, by omega, by go_num, ⟨by rw [show 21 - (j + 1) = 20 - j by omega]; exact H.out⟩, HBu, HB⟩
        case measure => simp [intOf]; omega
       ·rw [if_neg hts] at H; cases H
     ·replace H := H.out; rw [if_neg hz] at H; obtain rfl := Option.some.inj H
      go_wp2
      go_ret2
      exact ⟨rfl, HB.out⟩
    ·rw [if_neg hacc] at H; cases H
   ·rw [if_neg hlt] at H; obtain rfl := Option.some.inj H
    obtain rfl : j = l0.length := by omega
    clear hlt hj
    go_wp2_with fail
    refine (bld_string w.heap.size w.heap.size _ _ HBu.out HB.out.size).mono ?_
    rintro e w2 ⟨rfl, _, hbb, _⟩
    go_wp2
    go_ret2
    exact ⟨rfl, HB.out.trans hbb⟩
theorem roll_Print.calls (k : Nat) (A0 : Option Addr) (c0 : Nat) (l0 : List S26) (r1 : ByteArray) (r2 : Int) (w : World) (hr0 : Kd.C k26 w A0 l0.length l0) (hc0 : l0.length ≤ c0) (h : roll_Print.f k l0 = some (r1, r2)) (hG : Aside0 (GL w)) :
 Calls Tryz.prog 15 #[.slice A0 l0.length c0] w fun e w' => e = .returned (.tuple #[.string r1, .int .i64 r2]) ∧ Below w.heap.size w w' := roll_Print.calls0 k A0 c0 l0 (r1, r2) w hr0 hc0 h hG

end Go.Proofs.YtdblkmnbkpphjaaGreatDoor.P
namespace Go.Proofs.YtdblkmnbkpphjaaGreatDoor.P
open Go.RowKit Go.Proofs.YtdblkmnbkpphjaaGreatDoorW.PrintWords Go.Proofs.YtdblkmnbkpphjaaGreatDoorW.PrintLast Go.Proofs.YtdblkmnbkpphjaaGreatDoorW.PrintMore Go.Proofs.YtdblkmnbkpphjaaGreatDoorW.PrintAuto
attribute [local go_sem] max2_int min2_int max_two min_two max_three min_three max_four min_four   -- for this text's walks alone
set_option linter.unusedVariables false
set_option linter.unusedSimpArgs false

--FLAGS making laid
--IMPORT Derived.Test.YtdblkmnbkpphjaaGreatDoorGL
def strings_Split.f (a0 : ByteArray) (a1 : ByteArray) : Option (List ByteArray) := if a0.size < 4294967281 ∧ 1 ≤ a1.size then some (pieces a1 a0) else none
theorem strings_Split.calls (a0 : ByteArray) (a1 : ByteArray) (r : List ByteArray) (w : World) (h : strings_Split.f a0 a1 = some r) (hG : Aside0 (GL w)) :
  Calls Tryz.prog 43 #[.string a0, .string a1] w fun e w' => ∃ v0_ : Value, e = .returned (v0_) ∧ Kd.R Kd.string 9 w' w.heap.size (fun _ => True) v0_ r ∧ Below w.heap.size w w' := by
 unfold strings_Split.f at h
 split at h
 ·rename_i hb
  obtain rfl := Option.some.inj h; obtain ⟨m, hm⟩ := hG.out.ml; refine (Tryz.strings_Split a0 a1 m w hb.1 hm hb.2).mono ?_
  rintro e w' ⟨rfl, rfl⟩
  have hl : (pieces a1 a0).length = Lib.countB a0 a1 + 1 := pieces_length a1 a0 hb.2; have ho := strs_own w (pieces a1 a0) 9 (by rw [hl]; have := Lib.count_le a0.data.toList a1.data.toList; have e : Lib.countB a0 a1 = Lib.count a0.data.toList a1.data.toList := rfl; have e2 : a0.data.toList.length = a0.size := (Lib.size_eq a0).symm; omega); rw [hl] at ho; rw [← pieces_eq a1 a0 hb.2]; exact ⟨_, rfl, ho, below_alloc (Below.refl _ _) _⟩
 ·cases h

end Go.Proofs.YtdblkmnbkpphjaaGreatDoor.P
namespace Go.Proofs.YtdblkmnbkpphjaaGreatDoor.P
open Go.RowKit Go.Proofs.YtdblkmnbkpphjaaGreatDoorW.PrintWords Go.Proofs.YtdblkmnbkpphjaaGreatDoorW.PrintLast Go.Proofs.YtdblkmnbkpphjaaGreatDoorW.PrintMore Go.Proofs.YtdblkmnbkpphjaaGreatDoorW.PrintAuto
attribute [local go_sem] max2_int min2_int max_two min_two max_three min_three max_four min_four   -- for this text's walks alone
set_option linter.unusedVariables false
set_option linter.unusedSimpArgs false

def stringslite_HasPrefix.f (a0 : ByteArray) (a1 : ByteArray) : Option (Bool) := if (a0.size : Int) ≥ (a1.size : Int) then (if 0 ≤ (a1.size : Int) then (if (a1.size : Int) ≤ (a0.size : Int) then (some ((a0.extract 0 ((a1.size : Int) : Int).toNat).toList == a1.toList)) else (none)) else (none)) else (some false)
set_option maxHeartbeats 8000000 in
set_option maxRecDepth 100000 in
theorem stringslite_HasPrefix.calls (a0 : ByteArray) (a1 : ByteArray) (r : Bool) (w : World) (h : stringslite_HasPrefix.f a0 a1 = some r) :
  Calls Tryz.prog 110 #[.string a0, .string a1] w fun e w' => e = .returned (.bool r) ∧ Drawn0 w w' := by
 have H : (if (a0.size : Int) ≥ (a1.size : Int) then (if 0 ≤ (a1.size : Int) then (if (a1.size : Int) ≤ (a0.size : Int) then (some ((a0.extract 0 ((a1.size : Int) : Int).toNat).toList == a1.toList)) else (none)) else (none)) else (some false)) = some r := h; clear h
 by_cases c3 : (a0.size : Int) ≥ (a1.size : Int)
 ·rw [if_pos c3] at H; have c3b0 : decide ((a1.size : Int) ≤ (a0.size : Int)) = true := decide_eq_true c3; have c3b1 : decide (a1.size ≤ a0.size) = true := decide_eq_true (Int.ofNat_le.mp c3); clear c3
  by_cases c4 : 0 ≤ (a1.size : Int)
  ·rw [if_pos c4] at H; have c4b0 := eq_true c4; have c4b1 : decide (0 ≤ (a1.size : Int)) = true := decide_eq_true c4; clear c4
   by_cases c5 : (a1.size : Int) ≤ (a0.size : Int)
   ·rw [if_pos c5] at H; have c5b0 := eq_true c5; have c5b1 : decide ((a1.size : Int) ≤ (a0.size : Int)) = true := decide_eq_true c5; clear c5; obtain rfl := Option.some.inj H
    go_enter Tryz.func110, Tryz.ntmps110
    go_wp2
    go_ret
    exact ⟨by first | rfl | (simp; done) | (simp [*]; done), by repeat (first | exact Drawn0.refl _ | apply Drawn0.step)⟩
   ·rw [if_neg c5] at H; exact absurd H (by simp)
  ·rw [if_neg c4] at H; exact absurd H (by simp)
 ·rw [if_neg c3] at H; have c3b0 : decide ((a1.size : Int) ≤ (a0.size : Int)) = false := decide_eq_false c3; have c3b1 : decide (a1.size ≤ a0.size) = false := decide_eq_false (fun h => c3 (Int.ofNat_le.mpr h)); clear c3; obtain rfl := Option.some.inj H
  go_enter Tryz.func110, Tryz.ntmps110
  go_wp2
  go_ret
  exact ⟨by first | rfl | (simp; done) | (simp [*]; done), by repeat (first | exact Drawn0.refl _ | apply Drawn0.step)⟩

end Go.Proofs.YtdblkmnbkpphjaaGreatDoor.P
namespace Go.Proofs.YtdblkmnbkpphjaaGreatDoor.P
open Go.RowKit Go.Proofs.YtdblkmnbkpphjaaGreatDoorW.PrintWords Go.Proofs.YtdblkmnbkpphjaaGreatDoorW.PrintLast Go.Proofs.YtdblkmnbkpphjaaGreatDoorW.PrintMore Go.Proofs.YtdblkmnbkpphjaaGreatDoorW.PrintAuto
attribute [local go_sem] max2_int min2_int max_two min_two max_three min_three max_four min_four   -- for this text's walks alone
set_option linter.unusedVariables false
set_option linter.unusedSimpArgs false

def stringslite_TrimPrefix.f (a0 : ByteArray) (a1 : ByteArray) : Option (ByteArray) := (stringslite_HasPrefix.f a0 a1).bind fun t163 => (if t163 = true then (if 0 ≤ (a1.size : Int) then (if (a1.size : Int) ≤ (a0.size : Int) then (some (a0.extract ((a1.size : Int) : Int).toNat a0.size)) else (none)) else (none)) else (some a0))
set_option maxHeartbeats 8000000 in
set_option maxRecDepth 100000 in
theorem stringslite_TrimPrefix.calls (a0 : ByteArray) (a1 : ByteArray) (r : ByteArray) (w : World) (h : stringslite_TrimPrefix.f a0 a1 = some r) :
  Calls Tryz.prog 105 #[.string a0, .string a1] w fun e w' => e = .returned (.string r) ∧ Drawn0 w w' := by
 have H : ((stringslite_HasPrefix.f a0 a1).bind fun t163 => (if t163 = true then (if 0 ≤ (a1.size : Int) then (if (a1.size : Int) ≤ (a0.size : Int) then (some (a0.extract ((a1.size : Int) : Int).toNat a0.size)) else (none)) else (none)) else (some a0))) = some r := h; clear h; replace H := Option.bind_eq_some_iff.mp H; obtain ⟨t163, A30, H⟩ := H; replace H : (if t163 = true then (if 0 ≤ (a1.size : Int) then (if (a1.size : Int) ≤ (a0.size : Int) then (some (a0.extract ((a1.size : Int) : Int).toNat a0.size)) else (none)) else (none)) else (some a0)) = some r := H; have A3 := Aside0.mk A30; clear A30
 by_cases c4 : t163 = true
 ·subst c4
  have H1 : (if 0 ≤ (a1.size : Int) then (if (a1.size : Int) ≤ (a0.size : Int) then (some (a0.extract ((a1.size : Int) : Int).toNat a0.size)) else (none)) else (none)) = some r := by rw [if_pos rfl] at H; exact H
  clear H; have H := H1; clear H1
  by_cases c5 : 0 ≤ (a1.size : Int)
  ·rw [if_pos c5] at H; have c5b0 := eq_true c5; have c5b1 : decide (0 ≤ (a1.size : Int)) = true := decide_eq_true c5; clear c5
   by_cases c6 : (a1.size : Int) ≤ (a0.size : Int)
   ·rw [if_pos c6] at H; have c6b0 := eq_true c6; have c6b1 : decide ((a1.size : Int) ≤ (a0.size : Int)) = true := decide_eq_true c6; clear c6; obtain rfl := Option.some.inj H
    go_enter Tryz.func105, Tryz.ntmps105
    go_wp2_with (first | ((with_reducible refine gate_callee (f := 110) rfl ?_); refine goesA (some 7) rfl rfl Tryz.func110 (by kernel_rfl) rfl #[.string a0, .string a1] rfl ?_; (with_reducible refine (stringslite_HasPrefix.calls a0 a1 true _ A3.out).mono ?_); rintro e w' ⟨rfl, ⟨nd, rfl⟩⟩; refine ⟨_, rfl, ?_⟩))
    go_ret
    exact ⟨by first | rfl | (simp; done) | (simp [*]; done), by repeat (first | exact Drawn0.refl _ | apply Drawn0.step)⟩
   ·rw [if_neg c6] at H; exact absurd H (by simp)
  ·rw [if_neg c5] at H; exact absurd H (by simp)
 ·replace c4 := Bool.eq_false_iff.mpr c4; subst c4
  have H1 : (some a0) = some r := by rw [if_neg (show ¬ (false = true) by decide)] at H; exact H
  clear H; have H := H1; clear H1; obtain rfl := Option.some.inj H
  go_enter Tryz.func105, Tryz.ntmps105
  go_wp2_with (first | ((with_reducible refine gate_callee (f := 110) rfl ?_); refine goesA (some 7) rfl rfl Tryz.func110 (by kernel_rfl) rfl #[.string a0, .string a1] rfl ?_; (with_reducible refine (stringslite_HasPrefix.calls a0 a1 false _ A3.out).mono ?_); rintro e w' ⟨rfl, ⟨nd, rfl⟩⟩; refine ⟨_, rfl, ?_⟩))
  go_ret
  exact ⟨by first | rfl | (simp; done) | (simp [*]; done), by repeat (first | exact Drawn0.refl _ | apply Drawn0.step)⟩

end Go.Proofs.YtdblkmnbkpphjaaGreatDoor.P
namespace Go.Proofs.YtdblkmnbkpphjaaGreatDoor.P
open Go.RowKit Go.Proofs.YtdblkmnbkpphjaaGreatDoorW.PrintWords Go.Proofs.YtdblkmnbkpphjaaGreatDoorW.PrintLast Go.Proofs.YtdblkmnbkpphjaaGreatDoorW.PrintMore Go.Proofs.YtdblkmnbkpphjaaGreatDoorW.PrintAuto
attribute [local go_sem] max2_int min2_int max_two min_two max_three min_three max_four min_four   -- for this text's walks alone
set_option linter.unusedVariables false
set_option linter.unusedSimpArgs false

def strings_TrimPrefix.f (a0 : ByteArray) (a1 : ByteArray) : Option (ByteArray) := (stringslite_TrimPrefix.f a0 a1).bind fun t164 => (some t164)
set_option maxHeartbeats 8000000 in
set_option maxRecDepth 100000 in
theorem strings_TrimPrefix.calls (a0 : ByteArray) (a1 : ByteArray) (r : ByteArray) (w : World) (h : strings_TrimPrefix.f a0 a1 = some r) :
  Calls Tryz.prog 97 #[.string a0, .string a1] w fun e w' => e = .returned (.string r) ∧ Drawn0 w w' := by
 have H : ((stringslite_TrimPrefix.f a0 a1).bind fun t164 => (some t164)) = some r := h; clear h; replace H := Option.bind_eq_some_iff.mp H; obtain ⟨t164, A30, H⟩ := H; replace H : (some t164) = some r := H; have A3 := Aside0.mk A30; clear A30; obtain rfl := Option.some.inj H
 go_enter Tryz.func97, Tryz.ntmps97
 go_wp2_with (first | ((with_reducible refine gate_callee (f := 105) rfl ?_); refine goesA (some 7) rfl rfl Tryz.func105 (by kernel_rfl) rfl #[.string a0, .string a1] rfl ?_; (with_reducible refine (stringslite_TrimPrefix.calls a0 a1 t164 _ A3.out).mono ?_); rintro e w' ⟨rfl, ⟨nd, rfl⟩⟩; refine ⟨_, rfl, ?_⟩))
 go_ret
 exact ⟨by first | rfl | (simp; done) | (simp [*]; done), by repeat (first | exact Drawn0.refl _ | apply Drawn0.step)⟩

end Go.Proofs.YtdblkmnbkpphjaaGreatDoor.P
namespace Go.Proofs.YtdblkmnbkpphjaaGreatDoor.P
open Go.RowKit Go.Proofs.YtdblkmnbkpphjaaGreatDoorW.PrintWords Go.Proofs.YtdblkmnbkpphjaaGreatDoorW.PrintLast Go.Proofs.YtdblkmnbkpphjaaGreatDoorW.PrintMore Go.Proofs.YtdblkmnbkpphjaaGreatDoorW.PrintAuto
attribute [local go_sem] max2_int min2_int max_two min_two max_three min_three max_four min_four   -- for this text's walks alone
set_option linter.unusedVariables false
set_option linter.unusedSimpArgs false

--FLAGS making
--IMPORT Derived.Test.YtdblkmnbkpphjaaGreatDoorGL
def strconv_Atoi_98.f (a0 : ByteArray) : Option (Int × Option Int) := if a0.size ≤ 9223372036854775806 then (match Lib.atoiAll a0.data.toList with
 | .ok v => some (v, none)
 | _ => none) else none
theorem strconv_Atoi_98.calls (a0 : ByteArray) (r1 : Int) (r2 : Option Int) (w : World) (h : strconv_Atoi_98.f a0 = some (r1, r2)) :
  Calls Tryz.prog 98 #[.string a0] w fun e w' => e = .returned (.tuple #[.int .i64 r1, errW r2]) ∧ Below w.heap.size w w' := by
 unfold strconv_Atoi_98.f at h
 split at h
 ·rename_i hb
  split at h
  ·rename_i v hv
   simp only [Option.some.injEq, Prod.mk.injEq] at h; obtain ⟨rfl, rfl⟩ := h; refine (Tryz.strconv_Atoi_ok a0 hb _ hv w).mono ?_
   rintro e w' ⟨rfl, hw⟩
   exact ⟨rfl, atoi_w hw⟩
  ·cases h
 ·cases h

end Go.Proofs.YtdblkmnbkpphjaaGreatDoor.P
namespace Go.Proofs.YtdblkmnbkpphjaaGreatDoor.P
open Go.RowKit Go.Proofs.YtdblkmnbkpphjaaGreatDoorW.PrintWords Go.Proofs.YtdblkmnbkpphjaaGreatDoorW.PrintLast Go.Proofs.YtdblkmnbkpphjaaGreatDoorW.PrintMore Go.Proofs.YtdblkmnbkpphjaaGreatDoorW.PrintAuto
attribute [local go_sem] max2_int min2_int max_two min_two max_three min_three max_four min_four   -- for this text's walks alone
set_option linter.unusedVariables false
set_option linter.unusedSimpArgs false

mutual
def roll_number.j0 : Nat → ByteArray → ByteArray → Bool → Option (Int × Bool)
 | 0, _, _, _ => none
 | k + 1, x0, x4, x25 => if x25 = true then (some (0, false)) else (roll_number.l0 k x0 x4 (x4.size : Int) 0)
def roll_number.l0 : Nat → ByteArray → ByteArray → Int → Int → Option (Int × Bool)
 | 0, _, _, _, _ => none
 | k + 1, x0, x4, x27, x28 => if x28 < x27 then (if 0 ≤ x28 then (if x28 < (x4.size : Int) then ((roll_digit.f (bt x4 x28)).bind fun t183 => (if t183 = true then (roll_number.l0 k x0 x4 x27 (wrap64 (x28 + 1))) else (some (0, false)))) else (none)) else (none)) else ((strconv_Atoi_98.f x0).bind fun bt181 => (some (bt181.1, true)))
end
def roll_number.f (k : Nat) (a0 : ByteArray) : Option (Int × Bool) := (strings_TrimPrefix.f a0 (⟨#[45]⟩ : ByteArray)).bind fun t180 => (if t180.toList = ([] : List UInt8) then (roll_number.j0 k a0 t180 true) else (if (t180.size : Int) > 18 then (roll_number.j0 k a0 t180 true) else (if 0 < (t180.size : Int) then (if (bt t180 0) = 48 then (roll_number.j0 k a0 t180 (a0.toList != ([48] : List UInt8))) else (roll_number.j0 k a0 t180 false)) else (none))))
theorem roll_number.mono_l : ∀ k, (∀ y0 y1 y2, LeO (roll_number.j0 k y0 y1 y2) (roll_number.j0 (k + 1) y0 y1 y2)) ∧ (∀ y0 y1 y2 y3, LeO (roll_number.l0 k y0 y1 y2 y3) (roll_number.l0 (k + 1) y0 y1 y2 y3))
 | 0 => ⟨fun _ _ _ r h => by simp [roll_number.j0] at h, fun _ _ _ _ r h => by simp [roll_number.l0] at h⟩
 | k + 1 => by
  obtain ⟨ih0, ih1⟩ := roll_number.mono_l k
  refine ⟨?_, ?_⟩
  ·intro y0 y1 y2
   unfold roll_number.j0
   repeat' first
   | (with_reducible exact ih0 _ _ _)
   | (with_reducible exact ih1 _ _ _ _)
   | (with_reducible exact LeO.refl _)
   | (with_reducible exact LeO.none _)
   | (with_reducible refine LeO.ite ?_ ?_)
   | (with_reducible refine LeO.bind ?_ (fun _ => ?_))
   | exact ih0 _ _ _
   | exact ih1 _ _ _ _
   | exact LeO.none _
   | refine LeO.ite ?_ ?_
   | refine LeO.bind ?_ (fun _ => ?_)
  ·intro y0 y1 y2 y3
   unfold roll_number.l0
   repeat' first
   | (with_reducible exact ih0 _ _ _)
   | (with_reducible exact ih1 _ _ _ _)
   | (with_reducible exact LeO.refl _)
   | (with_reducible exact LeO.none _)
   | (with_reducible refine LeO.ite ?_ ?_)
   | (with_reducible refine LeO.bind ?_ (fun _ => ?_))
   | exact ih0 _ _ _
   | exact ih1 _ _ _ _
   | exact LeO.none _
   | refine LeO.ite ?_ ?_
   | refine LeO.bind ?_ (fun _ => ?_)
theorem roll_number.mono : ∀ a0 k, LeO (roll_number.f k a0) (roll_number.f (k + 1) a0) := by
 intro a0 k; obtain ⟨ih0, ih1⟩ := roll_number.mono_l k
 unfold roll_number.f
 repeat' first
  | (with_reducible exact ih0 _ _ _)
  | (with_reducible exact ih1 _ _ _ _)
  | (with_reducible exact LeO.refl _)
  | (with_reducible exact LeO.none _)
  | (with_reducible refine LeO.ite ?_ ?_)
  | (with_reducible refine LeO.bind ?_ (fun _ => ?_))
  | exact ih0 _ _ _
  | exact ih1 _ _ _ _
  | exact LeO.none _
  | refine LeO.ite ?_ ?_
  | refine LeO.bind ?_ (fun _ => ?_)
set_option maxHeartbeats 8000000 in
set_option maxRecDepth 100000 in
theorem roll_number.calls (k : Nat) (a0 : ByteArray) (r1 : Int) (r2 : Bool) (w : World) (h : roll_number.f k a0 = some (r1, r2)) :
  Calls Tryz.prog 86 #[.string a0] w fun e w' => e = .returned (.tuple #[.int .i64 r1, .bool r2]) ∧ Below w.heap.size w w' := by
 have HB := Aside0.mk (Below.refl w.heap.size w); have H : ((strings_TrimPrefix.f a0 (⟨#[45]⟩ : ByteArray)).bind fun t180 => (if t180.toList = ([] : List UInt8) then (roll_number.j0 k a0 t180 true) else (if (t180.size : Int) > 18 then (roll_number.j0 k a0 t180 true) else (if 0 < (t180.size : Int) then (if (bt t180 0) = 48 then (roll_number.j0 k a0 t180 (a0.toList != ([48] : List UInt8))) else (roll_number.j0 k a0 t180 false)) else (none))))) = some (r1, r2) := h; clear h; replace H := Option.bind_eq_some_iff.mp H; obtain ⟨t180, A20, H⟩ := H; replace H : (if t180.toList = ([] : List UInt8) then (roll_number.j0 k a0 t180 true) else (if (t180.size : Int) > 18 then (roll_number.j0 k a0 t180 true) else (if 0 < (t180.size : Int) then (if (bt t180 0) = 48 then (roll_number.j0 k a0 t180 (a0.toList != ([48] : List UInt8))) else (roll_number.j0 k a0 t180 false)) else (none)))) = some (r1, r2) := H; have A2 := Aside0.mk A20; clear A20; have HC3 := Aside0.mk H; clear H
 go_enter Tryz.func86, Tryz.ntmps86
 go_upto_region 2 with (first | ((with_reducible refine gate_callee (f := 97) rfl ?_); refine goesA (some 9) rfl rfl Tryz.func97 (by kernel_rfl) rfl #[.string a0, .string (⟨#[45]⟩ : ByteArray)] rfl ?_; (with_reducible refine (strings_TrimPrefix.calls a0 (⟨#[45]⟩ : ByteArray) t180 _ A2.out).mono ?_); rintro e w' ⟨rfl, ⟨nd, rfl⟩⟩; refine ⟨_, rfl, ?_⟩))
 (try simp only [Act.put, List.setIfInBounds_toArray, List.set_cons_zero, List.set_cons_succ])
 go_cut [25] (fun v25 wc => ∃ (kq : Nat) (x25_2 : Bool), v25 = .bool x25_2 ∧ Aside0 (roll_number.j0 kq a0 t180 x25_2 = some (r1, r2)) ∧ Aside0 (kq ≤ k) ∧ Aside0 (Below w.heap.size w wc))
 case first =>
  have H := HC3.out; clear HC3
  by_cases c4 : t180.toList = ([] : List UInt8)
  ·rw [if_pos c4] at H; have c4b0 : (t180.toList == ([] : List UInt8)) = true := beq_iff_eq.mpr c4; have c4b1 : (t180.toList != ([] : List UInt8)) = false := bne_eq_false_iff_eq.mpr c4; clear c4
   (first | rw [c4b0] | (simp only [i64_w, i32_w]; rw [c4b0]) | skip)
   have H' := Aside0.mk H; clear H
   go_wp2
   go_meet
   case rel => exact ⟨_, (true), (by first | rfl | (simp; done) | (simp [*]; done)), H', ⟨by first | omega | exact Nat.le_refl _⟩, ⟨be HB.out⟩⟩
  ·rw [if_neg c4] at H; have c4b0 : (t180.toList == ([] : List UInt8)) = false := beq_eq_false_iff_ne.mpr c4; have c4b1 : (t180.toList != ([] : List UInt8)) = true := bne_iff_ne.mpr c4
   (first | rw [c4b0] | (simp only [i64_w, i32_w]; rw [c4b0]) | skip)
   by_cases c5 : (t180.size : Int) > 18
   ·rw [if_pos c5] at H; have c5b0 : decide (18 < (t180.size : Int)) = true := decide_eq_true c5; have c5b1 : decide (18 < t180.size) = true := decide_eq_true (by omega); clear c5; have H' := Aside0.mk H; clear H
    go_wp2
    go_meet
    case rel => exact ⟨_, (true), (by first | rfl | (simp; done) | (simp [*]; done)), H', ⟨by first | omega | exact Nat.le_refl _⟩, ⟨be HB.out⟩⟩
   ·rw [if_neg c5] at H; have c5b0 : decide (18 < (t180.size : Int)) = false := decide_eq_false c5; have c5b1 : decide (18 < t180.size) = false := decide_eq_false (by omega); clear c5
    by_cases c6 : 0 < (t180.size : Int)
    ·rw [if_pos c6] at H; have c6b0 : decide (0 < (t180.size : Int)) = true := decide_eq_true c6; have c6b1 : decide (0 < t180.size) = true := decide_eq_true (by omega); clear c6
     by_cases c8 : (bt t180 0) = 48
     ·rw [if_pos c8] at H; have c8b0 : ((bt t180 0) == 48) = true := beq_iff_eq.mpr c8; have c8b1 : ((bt t180 0) != 48) = false := bne_eq_false_iff_eq.mpr c8; clear c8; have H' := Aside0.mk H; clear H; have p7 : 0 ≤ (0 : Int) := (by omega); have q7 : 0 < t180.size := (by have : (0 : Int) < (t180.size : Int) := oda; omega); have hx7 : ∀ h : 0 < t180.size, ((t180[0]'h).toNat : Int) = bt t180 0 := bt_at t180 0; clear p7; have qi7 : (0 < (t180.size : Int)) = True := eq_true (oda); replace q7 := eq_true q7
      go_wp2
      go_meet
      case rel => exact ⟨_, ((a0.toList != ([48] : List UInt8))), (by first | rfl | (simp; done) | (simp [*]; done)), H', ⟨by first | omega | exact Nat.le_refl _⟩, ⟨be HB.out⟩⟩
     ·rw [if_neg c8] at H; have c8b0 : ((bt t180 0) == 48) = false := beq_eq_false_iff_ne.mpr c8; have c8b1 : ((bt t180 0) != 48) = true := bne_iff_ne.mpr c8; have H' := Aside0.mk H; clear H; have p7 : 0 ≤ (0 : Int) := (by omega); have q7 : 0 < t180.size := (by have : (0 : Int) < (t180.size : Int) := oda; omega); have hx7 : ∀ h : 0 < t180.size, ((t180[0]'h).toNat : Int) = bt t180 0 := bt_at t180 0; clear p7; have qi7 : (0 < (t180.size : Int)) = True := eq_true (oda); replace q7 := eq_true q7
      go_wp2
      go_meet
      case rel => exact ⟨_, (false), (by first | rfl | (simp; done) | (simp [*]; done)), H', ⟨by first | omega | exact Nat.le_refl _⟩, ⟨be HB.out⟩⟩
    ·rw [if_neg c6] at H; exact absurd H (by simp)
 case rest =>
  clear HC3
  try clear p2
  try clear c4
  try clear c4b0
  try clear c4b1
  try clear c5
  try clear c5b0
  try clear c5b1
  try clear c6
  try clear c6b0
  try clear c6b1
  try clear p7
  try clear q7
  try clear hx7
  try clear qi7
  try clear c8
  try clear c8b0
  try clear c8b1
  try clear p7
  try clear q7
  obtain ⟨kq, x25_2, rfl, HA, HJ2, HB⟩ := hcut
  cases kq with
  | zero => exact absurd HA.out (by simp [roll_number.j0])
  | succ kj2 =>
   have H := HA.out; clear HA; simp only [roll_number.j0] at H
   by_cases c9 : x25_2 = true
   ·subst c9
    have H1 : (some (0, false)) = some (r1, r2) := by rw [if_pos rfl] at H; exact H
    clear H; have H := H1; clear H1; simp only [Option.some.injEq, Prod.mk.injEq] at H; obtain ⟨rfl, rfl⟩ := H
    go_wp2
    go_ret2
    exact ⟨by first | rfl | (simp [errW_none, errW_some] <;> rfl) | (simp [*, errW_none, errW_some] <;> rfl), be HB.out⟩
   ·replace c9 := Bool.eq_false_iff.mpr c9; subst c9
    have H1 : (roll_number.l0 kj2 a0 t180 (t180.size : Int) 0) = some (r1, r2) := by rw [if_neg (show ¬ (false = true) by decide)] at H; exact H
    clear H; have H := H1; clear H1; have H' := Aside0.mk H; clear H
    go_wp2
    go_loopg [28] kj2 (fun kq v28 w' => ∃ (x28_2 : Int), v28 = .int .i64 x28_2 ∧ Aside0 (roll_number.l0 kq a0 t180 (t180.size : Int) x28_2 = some (r1, r2)) ∧ Aside0 (kq ≤ kj2) ∧ Aside0 (Below w.heap.size w w'))
    case atStart => exact ⟨(0), (by first | rfl | (simp; done) | (simp [*]; done)), H', ⟨Nat.le_refl _⟩, ⟨be HB.out⟩⟩
    case round =>
     clear H'
     try clear p2
     try clear c4
     try clear c4b0
     try clear c4b1
     try clear c5
     try clear c5b0
     try clear c5b1
     try clear c6
     try clear c6b0
     try clear c6b1
     try clear p7
     try clear q7
     try clear hx7
     try clear qi7
     try clear c8
     try clear c8b0
     try clear c8b1
     try clear c9
     try clear p2
     try clear p7
     try clear q7
     obtain ⟨x28_2, rfl, HA, HK2, HB⟩ := hrel
     cases gk with
     | zero => exact absurd HA.out (by simp [roll_number.l0])
     | succ k2 =>
      have H := HA.out; clear HA; simp only [roll_number.l0] at H
      by_cases c10 : x28_2 < (t180.size : Int)
      ·rw [if_pos c10] at H; have c10b0 : decide (x28_2 < (t180.size : Int)) = true := decide_eq_true c10; clear c10
       by_cases c11 : 0 ≤ x28_2
       ·rw [if_pos c11] at H; have c11b0 : decide (0 ≤ x28_2) = true := decide_eq_true c11; clear c11
        by_cases c12 : x28_2 < (t180.size : Int)
        ·rw [if_pos c12] at H; have c12b0 : decide (x28_2 < (t180.size : Int)) = true := decide_eq_true c12; clear c12; replace H := Option.bind_eq_some_iff.mp H; obtain ⟨t183, A140, H⟩ := H; replace H : (if t183 = true then (roll_number.l0 k2 a0 t180 (t180.size : Int) (wrap64 (x28_2 + 1))) else (some (0, false))) = some (r1, r2) := H; have A14 := Aside0.mk A140; clear A140
         by_cases c15 : t183 = true
         ·subst c15
          have H1 : (roll_number.l0 k2 a0 t180 (t180.size : Int) (wrap64 (x28_2 + 1))) = some (r1, r2) := by rw [if_pos rfl] at H; exact H
          clear H; have H := H1; clear H1; have H' := Aside0.mk H; clear H; have p13 : 0 ≤ (x28_2 : Int) := oda; have q13 : x28_2 < (t180.size : Int) := oda; have hx13 := bt_at t180 x28_2; replace p13 := eq_true p13; replace q13 := eq_true q13
          go_wp2_with (first | ((with_reducible refine gate_callee (f := 46) rfl ?_); refine goesA (some 34) rfl rfl Tryz.func46 (by kernel_rfl) rfl #[.int .u8 (bt t180 x28_2)] rfl ?_; (with_reducible refine (roll_digit.calls (bt t180 x28_2) true _ A14.out).mono ?_); rintro e w' ⟨rfl, ⟨nd, rfl⟩⟩; refine ⟨_, rfl, ?_⟩))
          go_roundg k2
          case measure => have := HJ2.out; have := HK2.out; omega
          case rel => exact ⟨(wrap64 (x28_2 + 1)), (by first | rfl | (simp; done) | (simp [*]; done)), H', ⟨by have := HJ2.out; have := HK2.out; omega⟩, ⟨be HB.out⟩⟩
         ·replace c15 := Bool.eq_false_iff.mpr c15; subst c15
          have H1 : (some (0, false)) = some (r1, r2) := by rw [if_neg (show ¬ (false = true) by decide)] at H; exact H
          clear H; have H := H1; clear H1; simp only [Option.some.injEq, Prod.mk.injEq] at H; obtain ⟨rfl, rfl⟩ := H; have p13 : 0 ≤ (x28_2 : Int) := oda; have q13 : x28_2 < (t180.size : Int) := oda; have hx13 := bt_at t180 x28_2; replace p13 := eq_true p13; replace q13 := eq_true q13
          go_wp2_with (first | ((with_reducible refine gate_callee (f := 46) rfl ?_); refine goesA (some 34) rfl rfl Tryz.func46 (by kernel_rfl) rfl #[.int .u8 (bt t180 x28_2)] rfl ?_; (with_reducible refine (roll_digit.calls (bt t180 x28_2) false _ A14.out).mono ?_); rintro e w' ⟨rfl, ⟨nd, rfl⟩⟩; refine ⟨_, rfl, ?_⟩))
          go_ret2
          exact ⟨by first | rfl | (simp [errW_none, errW_some] <;> rfl) | (simp [*, errW_none, errW_some] <;> rfl), be HB.out⟩
        ·rw [if_neg c12] at H; exact absurd H (by simp)
       ·rw [if_neg c11] at H; exact absurd H (by simp)
      ·rw [if_neg c10] at H; have c10b0 : decide (x28_2 < (t180.size : Int)) = false := decide_eq_false c10; clear c10; replace H := Option.bind_eq_some_iff.mp H; obtain ⟨⟨t181, t182⟩, A160, H⟩ := H; replace H : (some (t181, true)) = some (r1, r2) := H; have A16 := Aside0.mk A160; clear A160; simp only [Option.some.injEq, Prod.mk.injEq] at H; obtain ⟨rfl, rfl⟩ := H
       go_wp2_with (first | ((with_reducible refine gate_callee (f := 98) rfl ?_); refine goesA (some 39) rfl rfl Tryz.func98 (by kernel_rfl) rfl #[.string a0] rfl ?_; (with_reducible refine (strconv_Atoi_98.calls a0 t181 t182 _ A16.out).mono ?_); rintro e w17 ⟨rfl, hb⟩; refine ⟨_, rfl, ?_⟩; replace HB := Aside0.mk (below_step (be HB.out) hb); (try clear hb); (try simp only [errW_none, errW_some])))
       go_ret2
       exact ⟨by first | rfl | (simp [errW_none, errW_some] <;> rfl) | (simp [*, errW_none, errW_some] <;> rfl), be HB.out⟩

end Go.Proofs.YtdblkmnbkpphjaaGreatDoor.P
namespace Go.Proofs.YtdblkmnbkpphjaaGreatDoor.P
open Go.RowKit Go.Proofs.YtdblkmnbkpphjaaGreatDoorW.PrintWords Go.Proofs.YtdblkmnbkpphjaaGreatDoorW.PrintLast Go.Proofs.YtdblkmnbkpphjaaGreatDoorW.PrintMore Go.Proofs.YtdblkmnbkpphjaaGreatDoorW.PrintAuto
attribute [local go_sem] max2_int min2_int max_two min_two max_three min_three max_four min_four   -- for this text's walks alone
set_option linter.unusedVariables false
set_option linter.unusedSimpArgs false

def roll_numbers.l0 : Nat → List Int → List ByteArray → Int → Int → Option (List Int × Bool)
 | 0, _, _, _, _ => none
 | k + 1, x4, x12, x13, x14 => if x14 < x13 then (if 0 ≤ x14 then (if x14 < (x12.length : Int) then ((roll_number.f k (rdOf ByteArray.empty x12 x14)).bind fun bt188 => (if bt188.2 = true then (if x14 < (x4.length : Int) then (roll_numbers.l0 k (x4.set (x14 : Int).toNat bt188.1) x12 x13 (wrap64 (x14 + 1))) else (none)) else (some (([] : List Int), false)))) else (none)) else (none)) else (some (x4, true))
def roll_numbers.f (k : Nat) (l0 : List ByteArray) : Option (List Int × Bool) := if 0 ≤ (l0.length : Int) then (if ((l0.length : Int) : Int).toNat ≤ 35184372088832 then (roll_numbers.l0 k (List.replicate ((l0.length : Int) : Int).toNat 0) l0 (l0.length : Int) 0) else (none)) else (none)
theorem roll_numbers.mono_l : ∀ k, (∀ y0 y1 y2 y3, LeO (roll_numbers.l0 k y0 y1 y2 y3) (roll_numbers.l0 (k + 1) y0 y1 y2 y3))
 | 0 => fun _ _ _ _ r h => by simp [roll_numbers.l0] at h
 | k + 1 => by
  have ih0 := roll_numbers.mono_l k
  ·intro y0 y1 y2 y3
   unfold roll_numbers.l0
   repeat' first
   | (with_reducible exact ih0 _ _ _ _)
   | (with_reducible exact roll_number.mono _ _)
   | (with_reducible exact LeO.refl _)
   | (with_reducible exact LeO.none _)
   | (with_reducible refine LeO.ite ?_ ?_)
   | (with_reducible refine LeO.bind ?_ (fun _ => ?_))
   | exact ih0 _ _ _ _
   | exact roll_number.mono _ _
   | exact LeO.none _
   | refine LeO.ite ?_ ?_
   | refine LeO.bind ?_ (fun _ => ?_)
theorem roll_numbers.mono : ∀ a0 k, LeO (roll_numbers.f k a0) (roll_numbers.f (k + 1) a0) := by
 intro a0 k; have ih0 := roll_numbers.mono_l k
 unfold roll_numbers.f
 repeat' first
  | (with_reducible exact ih0 _ _ _ _)
  | (with_reducible exact roll_number.mono _ _)
  | (with_reducible exact LeO.refl _)
  | (with_reducible exact LeO.none _)
  | (with_reducible refine LeO.ite ?_ ?_)
  | (with_reducible refine LeO.bind ?_ (fun _ => ?_))
  | exact ih0 _ _ _ _
  | exact roll_number.mono _ _
  | exact LeO.none _
  | refine LeO.ite ?_ ?_
  | refine LeO.bind ?_ (fun _ => ?_)
set_option maxHeartbeats 8000000 in
set_option maxRecDepth 100000 in
theorem roll_numbers.calls (k : Nat) (A0 : Option Addr) (c0 : Nat) (l0 : List ByteArray) (r1 : List Int) (r2 : Bool) (w : World) (hr0 : Kd.C Kd.string w A0 l0.length l0) (hc0 : l0.length ≤ c0) (h : roll_numbers.f k l0 = some (r1, r2)) :
  Calls Tryz.prog 75 #[.slice A0 l0.length c0] w fun e w' => ∃ v0_ : Value, e = .returned (.tuple #[v0_, .bool r2]) ∧ Kd.R (Kd.int .i64) 3 w' w.heap.size (fun _ => True) v0_ r1 ∧ Below w.heap.size w w' := by
 have HR0 := Aside0.mk hr0; have HC0 := Aside0.mk hc0; clear hr0 hc0; have HB := Aside0.mk (Below.refl w.heap.size w); have H : (if 0 ≤ (l0.length : Int) then (if ((l0.length : Int) : Int).toNat ≤ 35184372088832 then (roll_numbers.l0 k (List.replicate ((l0.length : Int) : Int).toNat 0) l0 (l0.length : Int) 0) else (none)) else (none)) = some (r1, r2) := h; clear h
 by_cases c2 : 0 ≤ (l0.length : Int)
 ·rw [if_pos c2] at H; have c2b0 := eq_true c2; have c2b1 : decide (0 ≤ (l0.length : Int)) = true := decide_eq_true c2; clear c2
  by_cases c3 : ((l0.length : Int) : Int).toNat ≤ 35184372088832
  ·rw [if_pos c3] at H; have c3b0 := eq_true c3; have c3b1 : decide (((l0.length : Int) : Int).toNat ≤ 35184372088832) = true := decide_eq_true c3; clear c3; obtain ⟨y184, hy184⟩ : ∃ y_ : List Int, y_ = (List.replicate ((l0.length : Int) : Int).toNat 0) := ⟨_, rfl⟩
   replace H : (roll_numbers.l0 k y184 l0 (l0.length : Int) 0) = some (r1, r2) := by first | (rw [hy184]; with_reducible exact H) | (have H2_ := (Option.bind_some _ _).symm.trans H; rw [hy184]; with_reducible exact H2_) | (have H2_ := (Option.bind_some _ _).symm.trans H; with_reducible exact H2_) | with_reducible exact H | (rw [hy184]; exact H) | exact H
   have Ny184 := Aside0.mk hy184; clear hy184; have H' := Aside0.mk H; clear H
   go_enter Tryz.func75, Tryz.ntmps75
   go_wp2_with (first | ((with_reducible refine gate_dst (N := 11) rfl ?_); refine Kd.R_make (Kd.int .i64) _ 3 rfl (N := 11) rfl 76 _ _ rfl (l0.length : Int) rfl rfl Tryz.underlying76 (.int .i64 0) 8 info3 rfl (by decide) (by omega) 0 (ok := fun _ => True) (okp := fun _ => True) rfl (fun _ hk => hk) trivial (oda) (Nat.le_trans (Nat.mul_le_mul_right _ (oda : (l0.length : Int).toNat ≤ 35184372088832)) (by omega)) (Below.refl _ _) (Nat.le_refl _) ?_; intro v185 w4 ho5 hb hg_ hnew_; clear hg_ hnew_; (first | rw [← Ny184.out] at ho5 | (simp only [Int.reduceToNat] at ho5; rw [← Ny184.out] at ho5)); have HO186 := Aside0.mk (Kd.R_lower ho5 (below_size (be HB.out))); replace HB := Aside0.mk (below_step (be HB.out) hb); clear hb ho5))
   go_loopg [14] k (fun kq v14 w' => ∃ (x4_1 : List Int) (x14_1 : Int), v14 = .int .i64 x14_1 ∧ Aside0 (roll_numbers.l0 kq x4_1 l0 (l0.length : Int) x14_1 = some (r1, r2)) ∧ Aside0 (kq ≤ k) ∧ Aside0 (Kd.R (Kd.int .i64) 3 w' w.heap.size (fun _ => True) v185 x4_1) ∧ Aside0 (Below w.heap.size w w'))
   case atStart => exact ⟨(y184), (0), (by first | rfl | (simp; done) | (simp [*]; done)), H', ⟨Nat.le_refl _⟩, ⟨ku (HO186.out)⟩, ⟨be HB.out⟩⟩
   case round =>
    clear H'
    try clear c2
    try clear c2b0
    try clear c2b1
    try clear p2
    try clear c3
    try clear c3b0
    try clear c3b1
    obtain ⟨x4_1, x14_1, rfl, HA, HK1, HO_4, HB⟩ := hrel
    cases gk with
    | zero => exact absurd HA.out (by simp [roll_numbers.l0])
    | succ k1 =>
     have H := HA.out; clear HA; simp only [roll_numbers.l0] at H
     by_cases c6 : x14_1 < (l0.length : Int)
     ·rw [if_pos c6] at H; have c6b0 : decide (x14_1 < (l0.length : Int)) = true := decide_eq_true c6; clear c6
      by_cases c7 : 0 ≤ x14_1
      ·rw [if_pos c7] at H; have c7b0 : decide (0 ≤ x14_1) = true := decide_eq_true c7; clear c7
       by_cases c8 : x14_1 < (l0.length : Int)
       ·rw [if_pos c8] at H; have c8b0 : decide (x14_1 < (l0.length : Int)) = true := decide_eq_true c8; clear c8; replace H := Option.bind_eq_some_iff.mp H; obtain ⟨⟨t188, t189⟩, A90, H⟩ := H; replace H : (if t189 = true then (if x14_1 < (x4_1.length : Int) then (roll_numbers.l0 k1 (x4_1.set (x14_1 : Int).toNat t188) l0 (l0.length : Int) (wrap64 (x14_1 + 1))) else (none)) else (some (([] : List Int), false))) = some (r1, r2) := H; have A9 := Aside0.mk A90; clear A90
        by_cases c10 : t189 = true
        ·subst c10
         have H1 : (if x14_1 < (x4_1.length : Int) then (roll_numbers.l0 k1 (x4_1.set (x14_1 : Int).toNat t188) l0 (l0.length : Int) (wrap64 (x14_1 + 1))) else (none)) = some (r1, r2) := by rw [if_pos rfl] at H; exact H
         clear H; have H := H1; clear H1
         by_cases c11 : x14_1 < (x4_1.length : Int)
         ·rw [if_pos c11] at H; have c11b0 : decide (x14_1 < (x4_1.length : Int)) = true := decide_eq_true c11; clear c11; obtain ⟨y190, hy190⟩ : ∃ y_ : List Int, y_ = (x4_1.set (x14_1 : Int).toNat t188) := ⟨_, rfl⟩
          replace H : (roll_numbers.l0 k1 y190 l0 (l0.length : Int) (wrap64 (x14_1 + 1))) = some (r1, r2) := by first | (rw [hy190]; with_reducible exact H) | (have H2_ := (Option.bind_some _ _).symm.trans H; rw [hy190]; with_reducible exact H2_) | (have H2_ := (Option.bind_some _ _).symm.trans H; with_reducible exact H2_) | with_reducible exact H | (rw [hy190]; exact H) | exact H
          have Ny190 := Aside0.mk hy190; clear hy190; have H' := Aside0.mk H; clear H; have p187 : 0 ≤ (x14_1 : Int) := oda; have q187 : x14_1 < (l0.length : Int) := oda; obtain ⟨ad187, e187, hx187_0⟩ := Kd.at_string HR0.out x14_1 p187 q187; cases e187; replace hx187_0 := (HB.out.cell (World.block_lt_of_cell? w _ hx187_0)).trans hx187_0; replace p187 := eq_true p187; replace q187 := eq_true q187
          go_wp2_with (first | ((with_reducible refine gate_callee (f := 86) rfl ?_); refine goesA (some 21) rfl rfl Tryz.func86 (by kernel_rfl) rfl #[.string (rdOf ByteArray.empty l0 x14_1)] rfl ?_; (with_reducible refine (roll_number.calls k1 (rdOf ByteArray.empty l0 x14_1) t188 true _ A9.out).mono ?_); rintro e w13 ⟨rfl, hb⟩; refine ⟨_, rfl, ?_⟩; replace HO_4 := Aside0.mk (Kd.R_below (ku HO_4.out) hb); replace HB := Aside0.mk (below_step (be HB.out) hb); (try clear hb); have p12 : 0 ≤ (x14_1 : Int) := oda; have q12 : (x14_1 : Int) < ((x4_1.length : Int) : Int) := oda; obtain ⟨go12, co12, eo12, gb12, gl12, cl12, HG12⟩ := Kd.R_form HO_4.out (by omega); (first | cases eo12 | (injection eo12 with ea_ en_ ec_; (first | subst ea_ | (injection ea_ with ea_; subst ea_)); subst ec_; clear en_)); have GB12 := Aside0.mk gb12; have GG12 := Aside0.mk HG12; clear gb12 gl12 HG12; obtain ⟨hx12_0, hf12_0⟩ := Kd.R_celln 0 HO_4.out (x14_1 : Int) p12 q12; replace p12 := eq_true p12; replace q12 := eq_true q12; obtain ⟨hy14_, hz14_⟩ := Kd.R_celln 0 HO_4.out (x14_1 : Int) (oda) (oda); have HP14 := Kd.R_putg HO_4.out (x14_1 : Int) t188) | ((with_reducible refine gate_store (t := 3) (p := 29) rfl ?_); refine store_event (t := 3) (p := 29) (v := ?vo_w15) (w1 := (w13.setCell ⟨go12, (x14_1 : Int).toNat, none⟩ (.int .i64 t188))) ?hg ?ho ?hn ?hr ?_; (case ho => rfl); (case hg => rfl); (case hn => rfl); (case hr => first | (go_simp; done) | (go_simp; rfl)); intro w15 hw; have hg : w13.grownBy w15 (some go12) := (by rw [hw]; exact HP14.2); have hp_ : Kd.R (Kd.int .i64) 3 w15 w.heap.size (fun _ => True) (.slice (some ⟨go12, 0, none⟩) x4_1.length co12) y190 := (by rw [hw, Ny190.out]; exact HP14.1); clear HP14; replace HO_4 := Aside0.mk (hp_); replace HB := Aside0.mk ((by rw [hw]; exact below_set (HB.out) GB12.out : Below w.heap.size w w15)); clear hg hw hp_))
          go_roundg k1
          case measure => have := HK1.out; omega
          case rel => exact ⟨(y190), (wrap64 (x14_1 + 1)), (by first | rfl | (simp; done) | (simp [*]; done)), H', ⟨by have := HK1.out; omega⟩, ⟨ku (HO_4.out)⟩, ⟨be HB.out⟩⟩
         ·rw [if_neg c11] at H; exact absurd H (by simp)
        ·replace c10 := Bool.eq_false_iff.mpr c10; subst c10
         have H1 : (some (([] : List Int), false)) = some (r1, r2) := by rw [if_neg (show ¬ (false = true) by decide)] at H; exact H
         clear H; have H := H1; clear H1; simp only [Option.some.injEq, Prod.mk.injEq] at H; obtain ⟨rfl, rfl⟩ := H; have p187 : 0 ≤ (x14_1 : Int) := oda; have q187 : x14_1 < (l0.length : Int) := oda; obtain ⟨ad187, e187, hx187_0⟩ := Kd.at_string HR0.out x14_1 p187 q187; cases e187; replace hx187_0 := (HB.out.cell (World.block_lt_of_cell? w _ hx187_0)).trans hx187_0; replace p187 := eq_true p187; replace q187 := eq_true q187
         go_wp2_with (first | ((with_reducible refine gate_callee (f := 86) rfl ?_); refine goesA (some 21) rfl rfl Tryz.func86 (by kernel_rfl) rfl #[.string (rdOf ByteArray.empty l0 x14_1)] rfl ?_; (with_reducible refine (roll_number.calls k1 (rdOf ByteArray.empty l0 x14_1) t188 false _ A9.out).mono ?_); rintro e w16 ⟨rfl, hb⟩; refine ⟨_, rfl, ?_⟩; replace HO_4 := Aside0.mk (Kd.R_below (ku HO_4.out) hb); replace HB := Aside0.mk (below_step (be HB.out) hb); (try clear hb)))
         go_ret2
         exact ⟨_, by first | rfl | (simp [errW_none, errW_some] <;> rfl) | (simp [*, errW_none, errW_some] <;> rfl), by first | exact Kd.R_nil _ _ _ _ _ | exact Kd.N_nil _ _ _ _ _ | exact Kd.V_nil _ _ _ _ _ | exact Kd.Q_nil _ _ _ _ _ | exact Kd.S_nil _ _ _ _ _, be HB.out⟩
       ·rw [if_neg c8] at H; exact absurd H (by simp)
      ·rw [if_neg c7] at H; exact absurd H (by simp)
     ·rw [if_neg c6] at H; have c6b0 : decide (x14_1 < (l0.length : Int)) = false := decide_eq_false c6; clear c6; simp only [Option.some.injEq, Prod.mk.injEq] at H; obtain ⟨rfl, rfl⟩ := H
      go_wp2
      go_ret2
      exact ⟨_, by first | rfl | (simp [errW_none, errW_some] <;> rfl) | (simp [*, errW_none, errW_some] <;> rfl), ku (HO_4.out), be HB.out⟩
  ·rw [if_neg c3] at H; exact absurd H (by simp)
 ·rw [if_neg c2] at H; exact absurd H (by simp)

end Go.Proofs.YtdblkmnbkpphjaaGreatDoor.P
