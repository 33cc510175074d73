/- The functions that the law reaches: what each computes, and that its code computes it. -/
import Derived.Test.YtghnjnegcdbgnaaDoorBP0
import Derived.Test.YtghnjnegcdbgnaaDoorBAuto
import Derived.Test.YtghnjnegcdbgnaaDoorJ3
import Derived.Test.YtghnjnegcdbgnaaDoorJ1
import Derived.Test.YtghnjnegcdbgnaaDoorBGL
namespace Go.Proofs.YtghnjnegcdbgnaaDoor.P
open Go.RowKit Go.Proofs.YtghnjnegcdbgnaaDoorW.PrintWords Go.Proofs.YtghnjnegcdbgnaaDoorW.PrintLast Go.Proofs.YtghnjnegcdbgnaaDoorW.PrintMore Go.Proofs.YtghnjnegcdbgnaaDoorW.PrintAuto
attribute [local go_sem] max2_int min2_int max_two min_two max_three min_three max_four min_four   -- for this text's walks alone
set_option linter.unusedVariables false
set_option linter.unusedSimpArgs false

mutual
def garmentref34_inRange.j0 : Nat → Bool → Int → Int → Int → Int → List Int → List (S46) → Option (Bool)
 | 0, _, _, _, _, _, _, _ => none
 | k + 1, x29, x409000, x409001, x409002, x409003, x409004, x409005 => if x29 = true then (some false) else (garmentref34_inRange.l0 k 0 x409000 x409001 x409002 x409003 x409004 x409005)
def garmentref34_inRange.l0 : Nat → Int → Int → Int → Int → Int → List Int → List (S46) → Option (Bool)
 | 0, _, _, _, _, _, _, _ => none
 | k + 1, x3, x409000, x409001, x409002, x409003, x409004, x409005 => if x3 < (x409004.length : Int) then (if 0 ≤ x3 then ((garmentref34_within.f (rd x409004 x3) 0 1048576).bind fun t414 => (if t414 = true then (garmentref34_inRange.l0 k (wrap64 (x3 + 1)) x409000 x409001 x409002 x409003 x409004 x409005) else (some false))) else (none)) else (garmentref34_inRange.l1 k 0 x409000 x409001 x409002 x409003 x409004 x409005)
def garmentref34_inRange.l1 : Nat → Int → Int → Int → Int → Int → List Int → List (S46) → Option (Bool)
 | 0, _, _, _, _, _, _, _ => none
 | k + 1, x4, x409000, x409001, x409002, x409003, x409004, x409005 => if x4 < (x409005.length : Int) then (if 0 ≤ x4 then ((garmentref34_within.f ((rd_T46 x409005 x4).f0) 0 1048576).bind fun t417 => (if t417 = true then ((garmentref34_within.f ((rd_T46 x409005 x4).f1) 0 1048576).bind fun t418 => (if t418 = true then ((garmentref34_within.f ((rd_T46 x409005 x4).f2) 0 1048576).bind fun t419 => (if t419 = true then ((garmentref34_within.f ((rd_T46 x409005 x4).f3.f1) 0 3).bind fun t420 => (if t420 = true then ((garmentref34_within.f ((rd_T46 x409005 x4).f4.f0) (-1048576) 1048576).bind fun t421 => (if t421 = true then ((garmentref34_within.f ((rd_T46 x409005 x4).f4.f1) (-1048576) 1048576).bind fun t422 => (garmentref34_inRange.j3 k x4 (!t422) x409000 x409001 x409002 x409003 x409004 x409005)) else (garmentref34_inRange.j3 k x4 true x409000 x409001 x409002 x409003 x409004 x409005))) else (garmentref34_inRange.j3 k x4 true x409000 x409001 x409002 x409003 x409004 x409005))) else (garmentref34_inRange.j3 k x4 true x409000 x409001 x409002 x409003 x409004 x409005))) else (garmentref34_inRange.j3 k x4 true x409000 x409001 x409002 x409003 x409004 x409005))) else (garmentref34_inRange.j3 k x4 true x409000 x409001 x409002 x409003 x409004 x409005))) else (none)) else (some true)
def garmentref34_inRange.j3 : Nat → Int → Bool → Int → Int → Int → Int → List Int → List (S46) → Option (Bool)
 | 0, _, _, _, _, _, _, _, _ => none
 | k + 1, x4, x92, x409000, x409001, x409002, x409003, x409004, x409005 => if x92 = true then (some false) else (garmentref34_inRange.l1 k (wrap64 (x4 + 1)) x409000 x409001 x409002 x409003 x409004 x409005)
end
def garmentref34_inRange.f (k : Nat) (a0_0 : Int) (a0_1 : Int) (a0_2 : Int) (a0_3 : Int) (l0_4 : List Int) (l0_5 : List (S46)) : Option (Bool) := (garmentref34_within.f a0_0 0 1048576).bind fun t409 => (if t409 = true then ((garmentref34_within.f a0_1 0 1048576).bind fun t410 => (if t410 = true then ((garmentref34_within.f a0_2 0 1048576).bind fun t411 => (if t411 = true then ((garmentref34_within.f a0_3 0 1048576).bind fun t412 => (garmentref34_inRange.j0 k (!t412) a0_0 a0_1 a0_2 a0_3 l0_4 l0_5)) else (garmentref34_inRange.j0 k true a0_0 a0_1 a0_2 a0_3 l0_4 l0_5))) else (garmentref34_inRange.j0 k true a0_0 a0_1 a0_2 a0_3 l0_4 l0_5))) else (garmentref34_inRange.j0 k true a0_0 a0_1 a0_2 a0_3 l0_4 l0_5))
theorem garmentref34_inRange.mono_l : ∀ k, (∀ y0 y1 y2 y3 y4 y5 y6, LeO (garmentref34_inRange.j0 k y0 y1 y2 y3 y4 y5 y6) (garmentref34_inRange.j0 (k + 1) y0 y1 y2 y3 y4 y5 y6)) ∧ (∀ y0 y1 y2 y3 y4 y5 y6, LeO (garmentref34_inRange.l0 k y0 y1 y2 y3 y4 y5 y6) (garmentref34_inRange.l0 (k + 1) y0 y1 y2 y3 y4 y5 y6)) ∧ (∀ y0 y1 y2 y3 y4 y5 y6, LeO (garmentref34_inRange.l1 k y0 y1 y2 y3 y4 y5 y6) (garmentref34_inRange.l1 (k + 1) y0 y1 y2 y3 y4 y5 y6)) ∧ (∀ y0 y1 y2 y3 y4 y5 y6 y7, LeO (garmentref34_inRange.j3 k y0 y1 y2 y3 y4 y5 y6 y7) (garmentref34_inRange.j3 (k + 1) y0 y1 y2 y3 y4 y5 y6 y7))
 | 0 => ⟨fun _ _ _ _ _ _ _ r h => by simp [garmentref34_inRange.j0] at h, fun _ _ _ _ _ _ _ r h => by simp [garmentref34_inRange.l0] at h, fun _ _ _ _ _ _ _ r h => by simp [garmentref34_inRange.l1] at h, fun _ _ _ _ _ _ _ _ r h => by simp [garmentref34_inRange.j3] at h⟩
 | k + 1 => by
  obtain ⟨ih0, ih1, ih2, ih3⟩ := garmentref34_inRange.mono_l k
  refine ⟨?_, ?_, ?_, ?_⟩
  ·intro y0 y1 y2 y3 y4 y5 y6
   unfold garmentref34_inRange.j0
   repeat' first
   | (with_reducible exact ih0 _ _ _ _ _ _ _)
   | (with_reducible exact ih1 _ _ _ _ _ _ _)
   | (with_reducible exact ih2 _ _ _ _ _ _ _)
   | (with_reducible exact ih3 _ _ _ _ _ _ _ _)
   | (with_reducible exact LeO.refl _)
   | (with_reducible exact LeO.none _)
   | (with_reducible refine LeO.ite ?_ ?_)
   | (with_reducible refine LeO.bind ?_ (fun _ => ?_))
   | exact ih0 _ _ _ _ _ _ _
   | exact ih1 _ _ _ _ _ _ _
   | exact ih2 _ _ _ _ _ _ _
   | exact ih3 _ _ _ _ _ _ _ _
   | exact LeO.none _
   | refine LeO.ite ?_ ?_
   | refine LeO.bind ?_ (fun _ => ?_)
  ·intro y0 y1 y2 y3 y4 y5 y6
   unfold garmentref34_inRange.l0
   repeat' first
   | (with_reducible exact ih0 _ _ _ _ _ _ _)
   | (with_reducible exact ih1 _ _ _ _ _ _ _)
   | (with_reducible exact ih2 _ _ _ _ _ _ _)
   | (with_reducible exact ih3 _ _ _ _ _ _ _ _)
   | (with_reducible exact LeO.refl _)
   | (with_reducible exact LeO.none _)
   | (with_reducible refine LeO.ite ?_ ?_)
   | (with_reducible refine LeO.bind ?_ (fun _ => ?_))
   | exact ih0 _ _ _ _ _ _ _
   | exact ih1 _ _ _ _ _ _ _
   | exact ih2 _ _ _ _ _ _ _
   | exact ih3 _ _ _ _ _ _ _ _
   | exact LeO.none _
   | refine LeO.ite ?_ ?_
   | refine LeO.bind ?_ (fun _ => ?_)
  ·intro y0 y1 y2 y3 y4 y5 y6
   unfold garmentref34_inRange.l1
   repeat' first
   | (with_reducible exact ih0 _ _ _ _ _ _ _)
   | (with_reducible exact ih1 _ _ _ _ _ _ _)
   | (with_reducible exact ih2 _ _ _ _ _ _ _)
   | (with_reducible exact ih3 _ _ _ _ _ _ _ _)
   | (with_reducible exact LeO.refl _)
   | (with_reducible exact LeO.none _)
   | (with_reducible refine LeO.ite ?_ ?_)
   | (with_reducible refine LeO.bind ?_ (fun _ => ?_))
   | exact ih0 _ _ _ _ _ _ _
   | exact ih1 _ _ _ _ _ _ _
   | exact ih2 _ _ _ _ _ _ _
   | exact ih3 _ _ _ _ _ _ _ _
   | exact LeO.none _
   | refine LeO.ite ?_ ?_
   | refine LeO.bind ?_ (fun _ => ?_)
  ·intro y0 y1 y2 y3 y4 y5 y6 y7
   unfold garmentref34_inRange.j3
   repeat' first
   | (with_reducible exact ih0 _ _ _ _ _ _ _)
   | (with_reducible exact ih1 _ _ _ _ _ _ _)
   | (with_reducible exact ih2 _ _ _ _ _ _ _)
   | (with_reducible exact ih3 _ _ _ _ _ _ _ _)
   | (with_reducible exact LeO.refl _)
   | (with_reducible exact LeO.none _)
   | (with_reducible refine LeO.ite ?_ ?_)
   | (with_reducible refine LeO.bind ?_ (fun _ => ?_))
   | exact ih0 _ _ _ _ _ _ _
   | exact ih1 _ _ _ _ _ _ _
   | exact ih2 _ _ _ _ _ _ _
   | exact ih3 _ _ _ _ _ _ _ _
   | exact LeO.none _
   | refine LeO.ite ?_ ?_
   | refine LeO.bind ?_ (fun _ => ?_)
theorem garmentref34_inRange.mono : ∀ a0 a1 a2 a3 a4 a5 k, LeO (garmentref34_inRange.f k a0 a1 a2 a3 a4 a5) (garmentref34_inRange.f (k + 1) a0 a1 a2 a3 a4 a5) := by
 intro a0 a1 a2 a3 a4 a5 k; obtain ⟨ih0, ih1, ih2, ih3⟩ := garmentref34_inRange.mono_l k
 unfold garmentref34_inRange.f
 repeat' first
  | (with_reducible exact ih0 _ _ _ _ _ _ _)
  | (with_reducible exact ih1 _ _ _ _ _ _ _)
  | (with_reducible exact ih2 _ _ _ _ _ _ _)
  | (with_reducible exact ih3 _ _ _ _ _ _ _ _)
  | (with_reducible exact LeO.refl _)
  | (with_reducible exact LeO.none _)
  | (with_reducible refine LeO.ite ?_ ?_)
  | (with_reducible refine LeO.bind ?_ (fun _ => ?_))
  | exact ih0 _ _ _ _ _ _ _
  | exact ih1 _ _ _ _ _ _ _
  | exact ih2 _ _ _ _ _ _ _
  | exact ih3 _ _ _ _ _ _ _ _
  | exact LeO.none _
  | refine LeO.ite ?_ ?_
  | refine LeO.bind ?_ (fun _ => ?_)
set_option maxHeartbeats 8000000 in
set_option maxRecDepth 100000 in
theorem garmentref34_inRange.calls (k : Nat) (a0_0 : Int) (a0_1 : Int) (a0_2 : Int) (a0_3 : Int) (A0_4 : Option Addr) (c0_4 : Nat) (l0_4 : List Int) (A0_5 : Option Addr) (c0_5 : Nat) (l0_5 : List (S46)) (r : Bool) (w : World) (hr0_4 : Kd.C (Kd.int .i64) w A0_4 l0_4.length l0_4) (hc0_4 : l0_4.length ≤ c0_4) (hr0_5 : Kd.C k46 w A0_5 l0_5.length l0_5) (hc0_5 : l0_5.length ≤ c0_5) (h : garmentref34_inRange.f k a0_0 a0_1 a0_2 a0_3 l0_4 l0_5 = some r) :
  Calls Tryd.prog 21 #[.agg #[.int .i64 a0_0, .int .i64 a0_1, .int .i64 a0_2, .int .i64 a0_3, .slice A0_4 l0_4.length c0_4, .slice A0_5 l0_5.length c0_5]] w fun e w' => e = .returned (.bool r) ∧ Below w.heap.size w w' := by
 have hu27 := Tryd.underlying27; have hu46 := Tryd.underlying46; have HR0_4 := Aside0.mk hr0_4; have HC0_4 := Aside0.mk hc0_4; clear hr0_4 hc0_4; have HR0_5 := Aside0.mk hr0_5; have HC0_5 := Aside0.mk hc0_5; clear hr0_5 hc0_5; have HB := Aside0.mk (Below.refl w.heap.size w); have H : ((garmentref34_within.f a0_0 0 1048576).bind fun t409 => (if t409 = true then ((garmentref34_within.f a0_1 0 1048576).bind fun t410 => (if t410 = true then ((garmentref34_within.f a0_2 0 1048576).bind fun t411 => (if t411 = true then ((garmentref34_within.f a0_3 0 1048576).bind fun t412 => (garmentref34_inRange.j0 k (!t412) a0_0 a0_1 a0_2 a0_3 l0_4 l0_5)) else (garmentref34_inRange.j0 k true a0_0 a0_1 a0_2 a0_3 l0_4 l0_5))) else (garmentref34_inRange.j0 k true a0_0 a0_1 a0_2 a0_3 l0_4 l0_5))) else (garmentref34_inRange.j0 k true a0_0 a0_1 a0_2 a0_3 l0_4 l0_5))) = some r := h; clear h; have HC2 := Aside0.mk H; clear H
 go_enter Tryd.func21, Tryd.ntmps21
 go_upto_region 1 with (first | ((with_reducible refine gate_dst (N := 1) rfl ?_); refine box_event ?hg (N := 1) ?hd (cs := #[.int .i64 a0_0, .int .i64 a0_1, .int .i64 a0_2, .int .i64 a0_3, .slice A0_4 l0_4.length c0_4, .slice A0_5 l0_5.length c0_5]) (t := 27) ?hr ?_; (case hd => rfl); (case hg => rfl); (case hr => first | (go_simp; done) | (go_simp; rfl)); intro gb408 hg w3 hbox hb; have BK408 := Aside0.mk (hbox); have GW408 := Aside0.mk ((by rw [hg]; exact (below_size (be HB.out)) : w.heap.size ≤ gb408)); have GE408 := Aside0.mk ((by rw [hg]; exact (below_size (be HB.out)) : w.heap.size ≤ gb408)); replace HB := Aside0.mk (below_step (be HB.out) hb); clear hb hbox hg))
 (try simp only [Act.put, List.setIfInBounds_toArray, List.set_cons_zero, List.set_cons_succ])
 go_cut [29] (fun v29 wc => ∃ (kq : Nat) (x29_1 : Bool), v29 = .bool x29_1 ∧ Aside0 (garmentref34_inRange.j0 kq x29_1 a0_0 a0_1 a0_2 a0_3 l0_4 l0_5 = some r) ∧ Aside0 (kq ≤ k) ∧ Aside0 (wc.heap[gb408]? = some (.cells #[.int .i64 a0_0, .int .i64 a0_1, .int .i64 a0_2, .int .i64 a0_3, (.slice A0_4 l0_4.length c0_4), (.slice A0_5 l0_5.length c0_5)] 27 (0, 0))) ∧ Aside0 (Below w.heap.size w wc))
 case first =>
  have H := HC2.out; clear HC2; replace H := Option.bind_eq_some_iff.mp H; obtain ⟨t409, A40, H⟩ := H; replace H : (if t409 = true then ((garmentref34_within.f a0_1 0 1048576).bind fun t410 => (if t410 = true then ((garmentref34_within.f a0_2 0 1048576).bind fun t411 => (if t411 = true then ((garmentref34_within.f a0_3 0 1048576).bind fun t412 => (garmentref34_inRange.j0 k (!t412) a0_0 a0_1 a0_2 a0_3 l0_4 l0_5)) else (garmentref34_inRange.j0 k true a0_0 a0_1 a0_2 a0_3 l0_4 l0_5))) else (garmentref34_inRange.j0 k true a0_0 a0_1 a0_2 a0_3 l0_4 l0_5))) else (garmentref34_inRange.j0 k true a0_0 a0_1 a0_2 a0_3 l0_4 l0_5)) = some r := H; have A4 := Aside0.mk A40; clear A40
  by_cases c5 : t409 = true
  ·subst c5
   have H1 : ((garmentref34_within.f a0_1 0 1048576).bind fun t410 => (if t410 = true then ((garmentref34_within.f a0_2 0 1048576).bind fun t411 => (if t411 = true then ((garmentref34_within.f a0_3 0 1048576).bind fun t412 => (garmentref34_inRange.j0 k (!t412) a0_0 a0_1 a0_2 a0_3 l0_4 l0_5)) else (garmentref34_inRange.j0 k true a0_0 a0_1 a0_2 a0_3 l0_4 l0_5))) else (garmentref34_inRange.j0 k true a0_0 a0_1 a0_2 a0_3 l0_4 l0_5))) = some r := by rw [if_pos rfl] at H; exact H
   clear H; have H := H1; clear H1; replace H := Option.bind_eq_some_iff.mp H; obtain ⟨t410, A60, H⟩ := H; replace H : (if t410 = true then ((garmentref34_within.f a0_2 0 1048576).bind fun t411 => (if t411 = true then ((garmentref34_within.f a0_3 0 1048576).bind fun t412 => (garmentref34_inRange.j0 k (!t412) a0_0 a0_1 a0_2 a0_3 l0_4 l0_5)) else (garmentref34_inRange.j0 k true a0_0 a0_1 a0_2 a0_3 l0_4 l0_5))) else (garmentref34_inRange.j0 k true a0_0 a0_1 a0_2 a0_3 l0_4 l0_5)) = some r := H; have A6 := Aside0.mk A60; clear A60
   by_cases c7 : t410 = true
   ·subst c7
    have H1 : ((garmentref34_within.f a0_2 0 1048576).bind fun t411 => (if t411 = true then ((garmentref34_within.f a0_3 0 1048576).bind fun t412 => (garmentref34_inRange.j0 k (!t412) a0_0 a0_1 a0_2 a0_3 l0_4 l0_5)) else (garmentref34_inRange.j0 k true a0_0 a0_1 a0_2 a0_3 l0_4 l0_5))) = some r := by rw [if_pos rfl] at H; exact H
    clear H; have H := H1; clear H1; replace H := Option.bind_eq_some_iff.mp H; obtain ⟨t411, A80, H⟩ := H; replace H : (if t411 = true then ((garmentref34_within.f a0_3 0 1048576).bind fun t412 => (garmentref34_inRange.j0 k (!t412) a0_0 a0_1 a0_2 a0_3 l0_4 l0_5)) else (garmentref34_inRange.j0 k true a0_0 a0_1 a0_2 a0_3 l0_4 l0_5)) = some r := H; have A8 := Aside0.mk A80; clear A80
    by_cases c9 : t411 = true
    ·subst c9
     have H1 : ((garmentref34_within.f a0_3 0 1048576).bind fun t412 => (garmentref34_inRange.j0 k (!t412) a0_0 a0_1 a0_2 a0_3 l0_4 l0_5)) = some r := by rw [if_pos rfl] at H; exact H
     clear H; have H := H1; clear H1; replace H := Option.bind_eq_some_iff.mp H; obtain ⟨t412, A100, H⟩ := H; replace H : (garmentref34_inRange.j0 k (!t412) a0_0 a0_1 a0_2 a0_3 l0_4 l0_5) = some r := H; have A10 := Aside0.mk A100; clear A100; have H' := Aside0.mk H; clear H; have hcz11_0 := bc BK408.out 0 (.int .i64 a0_0) rfl; have hcz11_1 := bc BK408.out 1 (.int .i64 a0_1) rfl; have hcz11_2 := bc BK408.out 2 (.int .i64 a0_2) rfl; have hcz11_3 := bc BK408.out 3 (.int .i64 a0_3) rfl; have hcz11_4 := bc BK408.out 4 (.slice A0_4 l0_4.length c0_4) rfl; have hcz11_5 := bc BK408.out 5 (.slice A0_5 l0_5.length c0_5) rfl; have hfz11_0 := blk_frozen BK408.out 0; have hfz11_1 := blk_frozen BK408.out 1; have hfz11_2 := blk_frozen BK408.out 2; have hfz11_3 := blk_frozen BK408.out 3; have hfz11_4 := blk_frozen BK408.out 4; have hfz11_5 := blk_frozen BK408.out 5
     go_wp2_with (first | ((with_reducible refine gate_callee (f := 32) rfl ?_); refine goesA (some 8) rfl rfl Tryd.func32 (by kernel_rfl) rfl #[.int .i64 a0_0, .int .i64 0, .int .i64 1048576] rfl ?_; (with_reducible refine (garmentref34_within.calls a0_0 0 1048576 true _ A4.out).mono ?_); rintro e w' ⟨rfl, ⟨nd, rfl⟩⟩; refine ⟨_, rfl, ?_⟩) | (go_at_call 32; (with_reducible refine (garmentref34_within.calls a0_1 0 1048576 true _ A6.out).mono ?_); rintro e w' ⟨rfl, ⟨nd, rfl⟩⟩) | (go_at_call 32; (with_reducible refine (garmentref34_within.calls a0_2 0 1048576 true _ A8.out).mono ?_); rintro e w' ⟨rfl, ⟨nd, rfl⟩⟩) | (go_at_call 32; (with_reducible refine (garmentref34_within.calls a0_3 0 1048576 t412 _ A10.out).mono ?_); rintro e w' ⟨rfl, ⟨nd, rfl⟩⟩))
     go_meet
     case rel => exact ⟨_, (!t412), (by first | rfl | (simp; done) | (simp [*]; done)), H', ⟨by first | omega | exact Nat.le_refl _⟩, ⟨bu (BK408.out)⟩, ⟨be HB.out⟩⟩
    ·replace c9 := Bool.eq_false_iff.mpr c9; subst c9
     have H1 : (garmentref34_inRange.j0 k true a0_0 a0_1 a0_2 a0_3 l0_4 l0_5) = some r := by rw [if_neg (show ¬ (false = true) by decide)] at H; exact H
     clear H; have H := H1; clear H1; have H' := Aside0.mk H; clear H; have hcz12_0 := bc BK408.out 0 (.int .i64 a0_0) rfl; have hcz12_1 := bc BK408.out 1 (.int .i64 a0_1) rfl; have hcz12_2 := bc BK408.out 2 (.int .i64 a0_2) rfl; have hcz12_3 := bc BK408.out 3 (.int .i64 a0_3) rfl; have hcz12_4 := bc BK408.out 4 (.slice A0_4 l0_4.length c0_4) rfl; have hcz12_5 := bc BK408.out 5 (.slice A0_5 l0_5.length c0_5) rfl; have hfz12_0 := blk_frozen BK408.out 0; have hfz12_1 := blk_frozen BK408.out 1; have hfz12_2 := blk_frozen BK408.out 2; have hfz12_3 := blk_frozen BK408.out 3; have hfz12_4 := blk_frozen BK408.out 4; have hfz12_5 := blk_frozen BK408.out 5
     go_wp2_with (first | ((with_reducible refine gate_callee (f := 32) rfl ?_); refine goesA (some 8) rfl rfl Tryd.func32 (by kernel_rfl) rfl #[.int .i64 a0_0, .int .i64 0, .int .i64 1048576] rfl ?_; (with_reducible refine (garmentref34_within.calls a0_0 0 1048576 true _ A4.out).mono ?_); rintro e w' ⟨rfl, ⟨nd, rfl⟩⟩; refine ⟨_, rfl, ?_⟩) | (go_at_call 32; (with_reducible refine (garmentref34_within.calls a0_1 0 1048576 true _ A6.out).mono ?_); rintro e w' ⟨rfl, ⟨nd, rfl⟩⟩) | (go_at_call 32; (with_reducible refine (garmentref34_within.calls a0_2 0 1048576 false _ A8.out).mono ?_); rintro e w' ⟨rfl, ⟨nd, rfl⟩⟩))
     go_meet
     case rel => exact ⟨_, (true), (by first | rfl | (simp; done) | (simp [*]; done)), H', ⟨by first | omega | exact Nat.le_refl _⟩, ⟨bu (BK408.out)⟩, ⟨be HB.out⟩⟩
   ·replace c7 := Bool.eq_false_iff.mpr c7; subst c7
    have H1 : (garmentref34_inRange.j0 k true a0_0 a0_1 a0_2 a0_3 l0_4 l0_5) = some r := by rw [if_neg (show ¬ (false = true) by decide)] at H; exact H
    clear H; have H := H1; clear H1; have H' := Aside0.mk H; clear H; have hcz13_0 := bc BK408.out 0 (.int .i64 a0_0) rfl; have hcz13_1 := bc BK408.out 1 (.int .i64 a0_1) rfl; have hcz13_2 := bc BK408.out 2 (.int .i64 a0_2) rfl; have hcz13_3 := bc BK408.out 3 (.int .i64 a0_3) rfl; have hcz13_4 := bc BK408.out 4 (.slice A0_4 l0_4.length c0_4) rfl; have hcz13_5 := bc BK408.out 5 (.slice A0_5 l0_5.length c0_5) rfl; have hfz13_0 := blk_frozen BK408.out 0; have hfz13_1 := blk_frozen BK408.out 1; have hfz13_2 := blk_frozen BK408.out 2; have hfz13_3 := blk_frozen BK408.out 3; have hfz13_4 := blk_frozen BK408.out 4; have hfz13_5 := blk_frozen BK408.out 5
    go_wp2_with (first | ((with_reducible refine gate_callee (f := 32) rfl ?_); refine goesA (some 8) rfl rfl Tryd.func32 (by kernel_rfl) rfl #[.int .i64 a0_0, .int .i64 0, .int .i64 1048576] rfl ?_; (with_reducible refine (garmentref34_within.calls a0_0 0 1048576 true _ A4.out).mono ?_); rintro e w' ⟨rfl, ⟨nd, rfl⟩⟩; refine ⟨_, rfl, ?_⟩) | (go_at_call 32; (with_reducible refine (garmentref34_within.calls a0_1 0 1048576 false _ A6.out).mono ?_); rintro e w' ⟨rfl, ⟨nd, rfl⟩⟩))
    go_meet
    case rel => exact ⟨_, (true), (by first | rfl | (simp; done) | (simp [*]; done)), H', ⟨by first | omega | exact Nat.le_refl _⟩, ⟨bu (BK408.out)⟩, ⟨be HB.out⟩⟩
  ·replace c5 := Bool.eq_false_iff.mpr c5; subst c5
   have H1 : (garmentref34_inRange.j0 k true a0_0 a0_1 a0_2 a0_3 l0_4 l0_5) = some r := by rw [if_neg (show ¬ (false = true) by decide)] at H; exact H
   clear H; have H := H1; clear H1; have H' := Aside0.mk H; clear H; have hcz14_0 := bc BK408.out 0 (.int .i64 a0_0) rfl; have hcz14_1 := bc BK408.out 1 (.int .i64 a0_1) rfl; have hcz14_2 := bc BK408.out 2 (.int .i64 a0_2) rfl; have hcz14_3 := bc BK408.out 3 (.int .i64 a0_3) rfl; have hcz14_4 := bc BK408.out 4 (.slice A0_4 l0_4.length c0_4) rfl; have hcz14_5 := bc BK408.out 5 (.slice A0_5 l0_5.length c0_5) rfl; have hfz14_0 := blk_frozen BK408.out 0; have hfz14_1 := blk_frozen BK408.out 1; have hfz14_2 := blk_frozen BK408.out 2; have hfz14_3 := blk_frozen BK408.out 3; have hfz14_4 := blk_frozen BK408.out 4; have hfz14_5 := blk_frozen BK408.out 5
   go_wp2_with (first | ((with_reducible refine gate_callee (f := 32) rfl ?_); refine goesA (some 8) rfl rfl Tryd.func32 (by kernel_rfl) rfl #[.int .i64 a0_0, .int .i64 0, .int .i64 1048576] rfl ?_; (with_reducible refine (garmentref34_within.calls a0_0 0 1048576 false _ A4.out).mono ?_); rintro e w' ⟨rfl, ⟨nd, rfl⟩⟩; refine ⟨_, rfl, ?_⟩))
   go_meet
   case rel => exact ⟨_, (true), (by first | rfl | (simp; done) | (simp [*]; done)), H', ⟨by first | omega | exact Nat.le_refl _⟩, ⟨bu (BK408.out)⟩, ⟨be HB.out⟩⟩
 case rest =>
  clear HC2
  try clear c2
  try clear p2
  try clear c3
  try clear c5
  try clear c7
  try clear c9
  try clear hcz11_0 hcz11_1 hcz11_2 hcz11_3 hcz11_4 hcz11_5
  try clear hcz12_0 hcz12_1 hcz12_2 hcz12_3 hcz12_4 hcz12_5
  try clear hcz13_0 hcz13_1 hcz13_2 hcz13_3 hcz13_4 hcz13_5
  try clear hcz14_0 hcz14_1 hcz14_2 hcz14_3 hcz14_4 hcz14_5
  try clear hfz11_0 hfz11_1 hfz11_2 hfz11_3 hfz11_4 hfz11_5
  try clear hfz12_0 hfz12_1 hfz12_2 hfz12_3 hfz12_4 hfz12_5
  try clear hfz13_0 hfz13_1 hfz13_2 hfz13_3 hfz13_4 hfz13_5
  try clear hfz14_0 hfz14_1 hfz14_2 hfz14_3 hfz14_4 hfz14_5
  obtain ⟨kq, x29_1, rfl, HA, HJ1, BK408, HB⟩ := hcut
  cases kq with
  | zero => exact absurd HA.out (by simp [garmentref34_inRange.j0])
  | succ kj1 =>
   have H := HA.out; clear HA; simp only [garmentref34_inRange.j0] at H
   by_cases c15 : x29_1 = true
   ·subst c15
    have H1 : (some false) = some r := by rw [if_pos rfl] at H; exact H
    clear H; have H := H1; clear H1; obtain rfl := Option.some.inj H
    go_wp2
    go_ret
    exact ⟨by first | rfl | (simp [errW_none, errW_some] <;> rfl) | (simp [*, errW_none, errW_some] <;> rfl), be HB.out⟩
   ·replace c15 := Bool.eq_false_iff.mpr c15; subst c15
    have H1 : (garmentref34_inRange.l0 kj1 0 a0_0 a0_1 a0_2 a0_3 l0_4 l0_5) = some r := by rw [if_neg (show ¬ (false = true) by decide)] at H; exact H
    clear H; have H := H1; clear H1; have H' := Aside0.mk H; clear H
    go_wp2
    go_loopg [3] kj1 (fun kq v3 w' => ∃ (x3_2 : Int), v3 = .int .i64 x3_2 ∧ Aside0 (garmentref34_inRange.l0 kq x3_2 a0_0 a0_1 a0_2 a0_3 l0_4 l0_5 = some r) ∧ Aside0 (kq ≤ kj1) ∧ Aside0 (w'.heap[gb408]? = some (.cells #[.int .i64 a0_0, .int .i64 a0_1, .int .i64 a0_2, .int .i64 a0_3, (.slice A0_4 l0_4.length c0_4), (.slice A0_5 l0_5.length c0_5)] 27 (0, 0))) ∧ Aside0 (Below w.heap.size w w'))
    case atStart => exact ⟨(0), (by first | rfl | (simp; done) | (simp [*]; done)), H', ⟨Nat.le_refl _⟩, ⟨bu (BK408.out)⟩, ⟨be HB.out⟩⟩
    case round =>
     clear H'
     try clear c1
     try clear c2
     try clear p2
     try clear c3
     try clear c5
     try clear c7
     try clear c9
     try clear c15
     try clear hcz11_0 hcz11_1 hcz11_2 hcz11_3 hcz11_4 hcz11_5
     try clear hcz12_0 hcz12_1 hcz12_2 hcz12_3 hcz12_4 hcz12_5
     try clear hcz13_0 hcz13_1 hcz13_2 hcz13_3 hcz13_4 hcz13_5
     try clear hcz14_0 hcz14_1 hcz14_2 hcz14_3 hcz14_4 hcz14_5
     try clear hfz11_0 hfz11_1 hfz11_2 hfz11_3 hfz11_4 hfz11_5
     try clear hfz12_0 hfz12_1 hfz12_2 hfz12_3 hfz12_4 hfz12_5
     try clear hfz13_0 hfz13_1 hfz13_2 hfz13_3 hfz13_4 hfz13_5
     try clear hfz14_0 hfz14_1 hfz14_2 hfz14_3 hfz14_4 hfz14_5
     try clear p2
     obtain ⟨x3_2, rfl, HA, HK2, BK408, HB⟩ := hrel
     cases gk with
     | zero => exact absurd HA.out (by simp [garmentref34_inRange.l0])
     | succ k2 =>
      have H := HA.out; clear HA; simp only [garmentref34_inRange.l0] at H
      by_cases c16 : x3_2 < (l0_4.length : Int)
      ·rw [if_pos c16] at H; have c16b0 : decide (x3_2 < (l0_4.length : Int)) = true := decide_eq_true c16; clear c16
       by_cases c17 : 0 ≤ x3_2
       ·rw [if_pos c17] at H; have c17b0 : decide (0 ≤ x3_2) = true := decide_eq_true c17; clear c17; replace H := Option.bind_eq_some_iff.mp H; obtain ⟨t414, A180, H⟩ := H; replace H : (if t414 = true then (garmentref34_inRange.l0 k2 (wrap64 (x3_2 + 1)) a0_0 a0_1 a0_2 a0_3 l0_4 l0_5) else (some false)) = some r := H; have A18 := Aside0.mk A180; clear A180
        by_cases c19 : t414 = true
        ·subst c19
         have H1 : (garmentref34_inRange.l0 k2 (wrap64 (x3_2 + 1)) a0_0 a0_1 a0_2 a0_3 l0_4 l0_5) = some r := by rw [if_pos rfl] at H; exact H
         clear H; have H := H1; clear H1; have H' := Aside0.mk H; clear H; have hcz20_0 := bc BK408.out 0 (.int .i64 a0_0) rfl; have hcz20_1 := bc BK408.out 1 (.int .i64 a0_1) rfl; have hcz20_2 := bc BK408.out 2 (.int .i64 a0_2) rfl; have hcz20_3 := bc BK408.out 3 (.int .i64 a0_3) rfl; have hcz20_4 := bc BK408.out 4 (.slice A0_4 l0_4.length c0_4) rfl; have hcz20_5 := bc BK408.out 5 (.slice A0_5 l0_5.length c0_5) rfl; have hfz20_0 := blk_frozen BK408.out 0; have hfz20_1 := blk_frozen BK408.out 1; have hfz20_2 := blk_frozen BK408.out 2; have hfz20_3 := blk_frozen BK408.out 3; have hfz20_4 := blk_frozen BK408.out 4; have hfz20_5 := blk_frozen BK408.out 5; have p413 : 0 ≤ (x3_2 : Int) := oda; have q413 : x3_2 < (l0_4.length : Int) := oda; obtain ⟨ad413, e413, hx413_0⟩ := Kd.at_int HR0_4.out x3_2 p413 q413; cases e413; replace hx413_0 := (HB.out.cell (World.block_lt_of_cell? w _ hx413_0)).trans hx413_0; replace p413 := eq_true p413; replace q413 := eq_true q413
         go_wp2_with (first | ((with_reducible refine gate_callee (f := 32) rfl ?_); refine goesA (some 42) rfl rfl Tryd.func32 (by kernel_rfl) rfl #[.int .i64 (rd l0_4 x3_2), .int .i64 0, .int .i64 1048576] rfl ?_; (with_reducible refine (garmentref34_within.calls (rd l0_4 x3_2) 0 1048576 true _ A18.out).mono ?_); rintro e w' ⟨rfl, ⟨nd, rfl⟩⟩; refine ⟨_, rfl, ?_⟩))
         go_roundg k2
         case measure => have := HJ1.out; have := HK2.out; omega
         case rel => exact ⟨(wrap64 (x3_2 + 1)), (by first | rfl | (simp; done) | (simp [*]; done)), H', ⟨by have := HJ1.out; have := HK2.out; omega⟩, ⟨bu (BK408.out)⟩, ⟨be HB.out⟩⟩
        ·replace c19 := Bool.eq_false_iff.mpr c19; subst c19
         have H1 : (some false) = some r := by rw [if_neg (show ¬ (false = true) by decide)] at H; exact H
         clear H; have H := H1; clear H1; obtain rfl := Option.some.inj H; have hcz21_0 := bc BK408.out 0 (.int .i64 a0_0) rfl; have hcz21_1 := bc BK408.out 1 (.int .i64 a0_1) rfl; have hcz21_2 := bc BK408.out 2 (.int .i64 a0_2) rfl; have hcz21_3 := bc BK408.out 3 (.int .i64 a0_3) rfl; have hcz21_4 := bc BK408.out 4 (.slice A0_4 l0_4.length c0_4) rfl; have hcz21_5 := bc BK408.out 5 (.slice A0_5 l0_5.length c0_5) rfl; have hfz21_0 := blk_frozen BK408.out 0; have hfz21_1 := blk_frozen BK408.out 1; have hfz21_2 := blk_frozen BK408.out 2; have hfz21_3 := blk_frozen BK408.out 3; have hfz21_4 := blk_frozen BK408.out 4; have hfz21_5 := blk_frozen BK408.out 5; have p413 : 0 ≤ (x3_2 : Int) := oda; have q413 : x3_2 < (l0_4.length : Int) := oda; obtain ⟨ad413, e413, hx413_0⟩ := Kd.at_int HR0_4.out x3_2 p413 q413; cases e413; replace hx413_0 := (HB.out.cell (World.block_lt_of_cell? w _ hx413_0)).trans hx413_0; replace p413 := eq_true p413; replace q413 := eq_true q413
         go_wp2_with (first | ((with_reducible refine gate_callee (f := 32) rfl ?_); refine goesA (some 42) rfl rfl Tryd.func32 (by kernel_rfl) rfl #[.int .i64 (rd l0_4 x3_2), .int .i64 0, .int .i64 1048576] rfl ?_; (with_reducible refine (garmentref34_within.calls (rd l0_4 x3_2) 0 1048576 false _ A18.out).mono ?_); rintro e w' ⟨rfl, ⟨nd, rfl⟩⟩; refine ⟨_, rfl, ?_⟩))
         go_ret
         exact ⟨by first | rfl | (simp [errW_none, errW_some] <;> rfl) | (simp [*, errW_none, errW_some] <;> rfl), be HB.out⟩
       ·rw [if_neg c17] at H; exact absurd H (by simp)
      ·rw [if_neg c16] at H; have c16b0 : decide (x3_2 < (l0_4.length : Int)) = false := decide_eq_false c16; clear c16; have H' := Aside0.mk H; clear H; have hcz22_0 := bc BK408.out 0 (.int .i64 a0_0) rfl; have hcz22_1 := bc BK408.out 1 (.int .i64 a0_1) rfl; have hcz22_2 := bc BK408.out 2 (.int .i64 a0_2) rfl; have hcz22_3 := bc BK408.out 3 (.int .i64 a0_3) rfl; have hcz22_4 := bc BK408.out 4 (.slice A0_4 l0_4.length c0_4) rfl; have hcz22_5 := bc BK408.out 5 (.slice A0_5 l0_5.length c0_5) rfl; have hfz22_0 := blk_frozen BK408.out 0; have hfz22_1 := blk_frozen BK408.out 1; have hfz22_2 := blk_frozen BK408.out 2; have hfz22_3 := blk_frozen BK408.out 3; have hfz22_4 := blk_frozen BK408.out 4; have hfz22_5 := blk_frozen BK408.out 5
       go_wp2
       go_loopg [4] k2 (fun kq v4 w' => ∃ (x4_3 : Int), v4 = .int .i64 x4_3 ∧ Aside0 (garmentref34_inRange.l1 kq x4_3 a0_0 a0_1 a0_2 a0_3 l0_4 l0_5 = some r) ∧ Aside0 (kq ≤ k2) ∧ Aside0 (w'.heap[gb408]? = some (.cells #[.int .i64 a0_0, .int .i64 a0_1, .int .i64 a0_2, .int .i64 a0_3, (.slice A0_4 l0_4.length c0_4), (.slice A0_5 l0_5.length c0_5)] 27 (0, 0))) ∧ Aside0 (Below w.heap.size w w'))
       case atStart => exact ⟨(0), (by first | rfl | (simp; done) | (simp [*]; done)), H', ⟨Nat.le_refl _⟩, ⟨bu (BK408.out)⟩, ⟨be HB.out⟩⟩
       case round =>
        clear H'
        try clear c1
        try clear c2
        try clear p2
        try clear c3
        try clear p4
        try clear q4
        try clear hx4
        try clear c5
        try clear p6
        try clear c7
        try clear c9
        try clear c15
        try clear c16
        try clear c16b0
        try clear c17
        try clear c17b0
        try clear c19
        try clear c21
        try clear hcz11_0 hcz11_1 hcz11_2 hcz11_3 hcz11_4 hcz11_5
        try clear hcz12_0 hcz12_1 hcz12_2 hcz12_3 hcz12_4 hcz12_5
        try clear hcz13_0 hcz13_1 hcz13_2 hcz13_3 hcz13_4 hcz13_5
        try clear hcz14_0 hcz14_1 hcz14_2 hcz14_3 hcz14_4 hcz14_5
        try clear hcz20_0 hcz20_1 hcz20_2 hcz20_3 hcz20_4 hcz20_5
        try clear hcz21_0 hcz21_1 hcz21_2 hcz21_3 hcz21_4 hcz21_5
        try clear hcz22_0 hcz22_1 hcz22_2 hcz22_3 hcz22_4 hcz22_5
        try clear hfz11_0 hfz11_1 hfz11_2 hfz11_3 hfz11_4 hfz11_5
        try clear hfz12_0 hfz12_1 hfz12_2 hfz12_3 hfz12_4 hfz12_5
        try clear hfz13_0 hfz13_1 hfz13_2 hfz13_3 hfz13_4 hfz13_5
        try clear hfz14_0 hfz14_1 hfz14_2 hfz14_3 hfz14_4 hfz14_5
        try clear hfz20_0 hfz20_1 hfz20_2 hfz20_3 hfz20_4 hfz20_5
        try clear hfz21_0 hfz21_1 hfz21_2 hfz21_3 hfz21_4 hfz21_5
        try clear hfz22_0 hfz22_1 hfz22_2 hfz22_3 hfz22_4 hfz22_5
        try clear hx413_0
        try clear p2
        try clear p413
        try clear q413
        obtain ⟨x4_3, rfl, HA, HK3, BK408, HB⟩ := hrel
        cases gk with
        | zero => exact absurd HA.out (by simp [garmentref34_inRange.l1])
        | succ k3 =>
         have H := HA.out; clear HA; simp only [garmentref34_inRange.l1] at H
         by_cases c23 : x4_3 < (l0_5.length : Int)
         ·rw [if_pos c23] at H; have c23b0 : decide (x4_3 < (l0_5.length : Int)) = true := decide_eq_true c23; clear c23
          by_cases c24 : 0 ≤ x4_3
          ·rw [if_pos c24] at H; have c24b0 : decide (0 ≤ x4_3) = true := decide_eq_true c24; clear c24; have HC25 := Aside0.mk H; clear H; have hcz26_0 := bc BK408.out 0 (.int .i64 a0_0) rfl; have hcz26_1 := bc BK408.out 1 (.int .i64 a0_1) rfl; have hcz26_2 := bc BK408.out 2 (.int .i64 a0_2) rfl; have hcz26_3 := bc BK408.out 3 (.int .i64 a0_3) rfl; have hcz26_4 := bc BK408.out 4 (.slice A0_4 l0_4.length c0_4) rfl; have hcz26_5 := bc BK408.out 5 (.slice A0_5 l0_5.length c0_5) rfl; have hfz26_0 := blk_frozen BK408.out 0; have hfz26_1 := blk_frozen BK408.out 1; have hfz26_2 := blk_frozen BK408.out 2; have hfz26_3 := blk_frozen BK408.out 3; have hfz26_4 := blk_frozen BK408.out 4; have hfz26_5 := blk_frozen BK408.out 5; have p415 : 0 ≤ (x4_3 : Int) := oda; have q415 : x4_3 < (l0_5.length : Int) := oda; obtain ⟨ad415, e415, hx415_0, hx415_1, hx415_2, hx415_3, hx415_4, hx415_5, hx415_6⟩ := at_T46 HR0_5.out x4_3 p415 q415; cases e415; replace hx415_0 := (HB.out.cell (World.block_lt_of_cell? w _ hx415_0)).trans hx415_0; replace hx415_1 := (HB.out.cell (World.block_lt_of_cell? w _ hx415_1)).trans hx415_1; replace hx415_2 := (HB.out.cell (World.block_lt_of_cell? w _ hx415_2)).trans hx415_2; replace hx415_3 := (HB.out.cell (World.block_lt_of_cell? w _ hx415_3)).trans hx415_3; replace hx415_4 := (HB.out.cell (World.block_lt_of_cell? w _ hx415_4)).trans hx415_4; replace hx415_5 := (HB.out.cell (World.block_lt_of_cell? w _ hx415_5)).trans hx415_5; replace hx415_6 := (HB.out.cell (World.block_lt_of_cell? w _ hx415_6)).trans hx415_6; replace p415 := eq_true p415; replace q415 := eq_true q415
           go_upto_region 12 with (first | ((with_reducible refine gate_dst (N := 5) rfl ?_); refine box_event ?hg (N := 5) ?hd (cs := #[.int .i64 0, .int .i64 0, .int .i64 0, .bool false, .int .i64 0, .int .i64 0, .int .i64 0]) (t := 46) ?hr ?_; (case hd => rfl); (case hg => rfl); (case hr => first | (go_simp; done) | (go_simp; rfl)); intro gb416 hg w27 hbox hb; have BK416 := Aside0.mk (hbox); have GW416 := Aside0.mk ((by rw [hg]; exact (below_size (be HB.out)) : w.heap.size ≤ gb416)); have GE416 := Aside0.mk ((by rw [hg]; exact (below_size (be HB.out)) : w.heap.size ≤ gb416)); have NB408_416 := Aside0.mk ((by rw [hg]; exact Nat.ne_of_lt (blk_lt (g := gb408) (o := .cells #[.int .i64 a0_0, .int .i64 a0_1, .int .i64 a0_2, .int .i64 a0_3, .slice A0_4 l0_4.length c0_4, .slice (some ad415) l0_5.length c0_5] 27 (0, 0)) (bu BK408.out)) : gb408 ≠ gb416)); have NB416_408 := Aside0.mk ((by rw [hg]; exact Nat.ne_of_gt (blk_lt (g := gb408) (o := .cells #[.int .i64 a0_0, .int .i64 a0_1, .int .i64 a0_2, .int .i64 a0_3, .slice A0_4 l0_4.length c0_4, .slice (some ad415) l0_5.length c0_5] 27 (0, 0)) (bu BK408.out)) : gb416 ≠ gb408)); replace BK408 := Aside0.mk (blk_below (bu BK408.out) hb); replace HB := Aside0.mk (below_step (be HB.out) hb); clear hb hbox hg; have hnb28 := NB416_408.out; have hnc28 := NB408_416.out; have hcz29_0 := bc BK416.out 0 (.int .i64 0) rfl; have hcz29_1 := bc BK416.out 1 (.int .i64 0) rfl; have hcz29_2 := bc BK416.out 2 (.int .i64 0) rfl; have hcz29_3 := bc BK416.out 3 (.bool false) rfl; have hcz29_4 := bc BK416.out 4 (.int .i64 0) rfl; have hcz29_5 := bc BK416.out 5 (.int .i64 0) rfl; have hcz29_6 := bc BK416.out 6 (.int .i64 0) rfl; have hfz29_0 := blk_frozen BK416.out 0; have hfz29_1 := blk_frozen BK416.out 1; have hfz29_2 := blk_frozen BK416.out 2; have hfz29_3 := blk_frozen BK416.out 3; have hfz29_4 := blk_frozen BK416.out 4; have hfz29_5 := blk_frozen BK416.out 5; have hfz29_6 := blk_frozen BK416.out 6))
           (try simp only [Act.put, List.setIfInBounds_toArray, List.set_cons_zero, List.set_cons_succ])
           go_cut [92] (fun v92 wc => ∃ (kq : Nat) (x92_24 : Bool), v92 = .bool x92_24 ∧ Aside0 (garmentref34_inRange.j3 kq x4_3 x92_24 a0_0 a0_1 a0_2 a0_3 l0_4 l0_5 = some r) ∧ Aside0 (kq ≤ k3) ∧ Aside0 (wc.heap[gb408]? = some (.cells #[.int .i64 a0_0, .int .i64 a0_1, .int .i64 a0_2, .int .i64 a0_3, (.slice A0_4 l0_4.length c0_4), (.slice (some ad415) l0_5.length c0_5)] 27 (0, 0))) ∧ Aside0 (wc.heap[gb416]? = some (.cells #[.int .i64 ((rd_T46 l0_5 x4_3).f0), .int .i64 ((rd_T46 l0_5 x4_3).f1), .int .i64 ((rd_T46 l0_5 x4_3).f2), .bool ((rd_T46 l0_5 x4_3).f3.f0), .int .i64 ((rd_T46 l0_5 x4_3).f3.f1), .int .i64 ((rd_T46 l0_5 x4_3).f4.f0), .int .i64 ((rd_T46 l0_5 x4_3).f4.f1)] 46 (0, 0))) ∧ Aside0 (Below w.heap.size w wc))
           case first =>
            have H := HC25.out; clear HC25; replace H := Option.bind_eq_some_iff.mp H; obtain ⟨t417, A300, H⟩ := H; replace H : (if t417 = true then ((garmentref34_within.f ((rd_T46 l0_5 x4_3).f1) 0 1048576).bind fun t418 => (if t418 = true then ((garmentref34_within.f ((rd_T46 l0_5 x4_3).f2) 0 1048576).bind fun t419 => (if t419 = true then ((garmentref34_within.f ((rd_T46 l0_5 x4_3).f3.f1) 0 3).bind fun t420 => (if t420 = true then ((garmentref34_within.f ((rd_T46 l0_5 x4_3).f4.f0) (-1048576) 1048576).bind fun t421 => (if t421 = true then ((garmentref34_within.f ((rd_T46 l0_5 x4_3).f4.f1) (-1048576) 1048576).bind fun t422 => (garmentref34_inRange.j3 k3 x4_3 (!t422) a0_0 a0_1 a0_2 a0_3 l0_4 l0_5)) else (garmentref34_inRange.j3 k3 x4_3 true a0_0 a0_1 a0_2 a0_3 l0_4 l0_5))) else (garmentref34_inRange.j3 k3 x4_3 true a0_0 a0_1 a0_2 a0_3 l0_4 l0_5))) else (garmentref34_inRange.j3 k3 x4_3 true a0_0 a0_1 a0_2 a0_3 l0_4 l0_5))) else (garmentref34_inRange.j3 k3 x4_3 true a0_0 a0_1 a0_2 a0_3 l0_4 l0_5))) else (garmentref34_inRange.j3 k3 x4_3 true a0_0 a0_1 a0_2 a0_3 l0_4 l0_5)) = some r := H; have A30 := Aside0.mk A300; clear A300
            by_cases c31 : t417 = true
            ·subst c31
             have H1 : ((garmentref34_within.f ((rd_T46 l0_5 x4_3).f1) 0 1048576).bind fun t418 => (if t418 = true then ((garmentref34_within.f ((rd_T46 l0_5 x4_3).f2) 0 1048576).bind fun t419 => (if t419 = true then ((garmentref34_within.f ((rd_T46 l0_5 x4_3).f3.f1) 0 3).bind fun t420 => (if t420 = true then ((garmentref34_within.f ((rd_T46 l0_5 x4_3).f4.f0) (-1048576) 1048576).bind fun t421 => (if t421 = true then ((garmentref34_within.f ((rd_T46 l0_5 x4_3).f4.f1) (-1048576) 1048576).bind fun t422 => (garmentref34_inRange.j3 k3 x4_3 (!t422) a0_0 a0_1 a0_2 a0_3 l0_4 l0_5)) else (garmentref34_inRange.j3 k3 x4_3 true a0_0 a0_1 a0_2 a0_3 l0_4 l0_5))) else (garmentref34_inRange.j3 k3 x4_3 true a0_0 a0_1 a0_2 a0_3 l0_4 l0_5))) else (garmentref34_inRange.j3 k3 x4_3 true a0_0 a0_1 a0_2 a0_3 l0_4 l0_5))) else (garmentref34_inRange.j3 k3 x4_3 true a0_0 a0_1 a0_2 a0_3 l0_4 l0_5))) = some r := by rw [if_pos rfl] at H; exact H
             clear H; have H := H1; clear H1; replace H := Option.bind_eq_some_iff.mp H; obtain ⟨t418, A320, H⟩ := H; replace H : (if t418 = true then ((garmentref34_within.f ((rd_T46 l0_5 x4_3).f2) 0 1048576).bind fun t419 => (if t419 = true then ((garmentref34_within.f ((rd_T46 l0_5 x4_3).f3.f1) 0 3).bind fun t420 => (if t420 = true then ((garmentref34_within.f ((rd_T46 l0_5 x4_3).f4.f0) (-1048576) 1048576).bind fun t421 => (if t421 = true then ((garmentref34_within.f ((rd_T46 l0_5 x4_3).f4.f1) (-1048576) 1048576).bind fun t422 => (garmentref34_inRange.j3 k3 x4_3 (!t422) a0_0 a0_1 a0_2 a0_3 l0_4 l0_5)) else (garmentref34_inRange.j3 k3 x4_3 true a0_0 a0_1 a0_2 a0_3 l0_4 l0_5))) else (garmentref34_inRange.j3 k3 x4_3 true a0_0 a0_1 a0_2 a0_3 l0_4 l0_5))) else (garmentref34_inRange.j3 k3 x4_3 true a0_0 a0_1 a0_2 a0_3 l0_4 l0_5))) else (garmentref34_inRange.j3 k3 x4_3 true a0_0 a0_1 a0_2 a0_3 l0_4 l0_5)) = some r := H; have A32 := Aside0.mk A320; clear A320
             by_cases c33 : t418 = true
             ·subst c33
              have H1 : ((garmentref34_within.f ((rd_T46 l0_5 x4_3).f2) 0 1048576).bind fun t419 => (if t419 = true then ((garmentref34_within.f ((rd_T46 l0_5 x4_3).f3.f1) 0 3).bind fun t420 => (if t420 = true then ((garmentref34_within.f ((rd_T46 l0_5 x4_3).f4.f0) (-1048576) 1048576).bind fun t421 => (if t421 = true then ((garmentref34_within.f ((rd_T46 l0_5 x4_3).f4.f1) (-1048576) 1048576).bind fun t422 => (garmentref34_inRange.j3 k3 x4_3 (!t422) a0_0 a0_1 a0_2 a0_3 l0_4 l0_5)) else (garmentref34_inRange.j3 k3 x4_3 true a0_0 a0_1 a0_2 a0_3 l0_4 l0_5))) else (garmentref34_inRange.j3 k3 x4_3 true a0_0 a0_1 a0_2 a0_3 l0_4 l0_5))) else (garmentref34_inRange.j3 k3 x4_3 true a0_0 a0_1 a0_2 a0_3 l0_4 l0_5))) = some r := by rw [if_pos rfl] at H; exact H
              clear H; have H := H1; clear H1; replace H := Option.bind_eq_some_iff.mp H; obtain ⟨t419, A340, H⟩ := H; replace H : (if t419 = true then ((garmentref34_within.f ((rd_T46 l0_5 x4_3).f3.f1) 0 3).bind fun t420 => (if t420 = true then ((garmentref34_within.f ((rd_T46 l0_5 x4_3).f4.f0) (-1048576) 1048576).bind fun t421 => (if t421 = true then ((garmentref34_within.f ((rd_T46 l0_5 x4_3).f4.f1) (-1048576) 1048576).bind fun t422 => (garmentref34_inRange.j3 k3 x4_3 (!t422) a0_0 a0_1 a0_2 a0_3 l0_4 l0_5)) else (garmentref34_inRange.j3 k3 x4_3 true a0_0 a0_1 a0_2 a0_3 l0_4 l0_5))) else (garmentref34_inRange.j3 k3 x4_3 true a0_0 a0_1 a0_2 a0_3 l0_4 l0_5))) else (garmentref34_inRange.j3 k3 x4_3 true a0_0 a0_1 a0_2 a0_3 l0_4 l0_5)) = some r := H; have A34 := Aside0.mk A340; clear A340
              by_cases c35 : t419 = true
              ·subst c35
               have H1 : ((garmentref34_within.f ((rd_T46 l0_5 x4_3).f3.f1) 0 3).bind fun t420 => (if t420 = true then ((garmentref34_within.f ((rd_T46 l0_5 x4_3).f4.f0) (-1048576) 1048576).bind fun t421 => (if t421 = true then ((garmentref34_within.f ((rd_T46 l0_5 x4_3).f4.f1) (-1048576) 1048576).bind fun t422 => (garmentref34_inRange.j3 k3 x4_3 (!t422) a0_0 a0_1 a0_2 a0_3 l0_4 l0_5)) else (garmentref34_inRange.j3 k3 x4_3 true a0_0 a0_1 a0_2 a0_3 l0_4 l0_5))) else (garmentref34_inRange.j3 k3 x4_3 true a0_0 a0_1 a0_2 a0_3 l0_4 l0_5))) = some r := by rw [if_pos rfl] at H; exact H
               clear H; have H := H1; clear H1; replace H := Option.bind_eq_some_iff.mp H; obtain ⟨t420, A360, H⟩ := H; replace H : (if t420 = true then ((garmentref34_within.f ((rd_T46 l0_5 x4_3).f4.f0) (-1048576) 1048576).bind fun t421 => (if t421 = true then ((garmentref34_within.f ((rd_T46 l0_5 x4_3).f4.f1) (-1048576) 1048576).bind fun t422 => (garmentref34_inRange.j3 k3 x4_3 (!t422) a0_0 a0_1 a0_2 a0_3 l0_4 l0_5)) else (garmentref34_inRange.j3 k3 x4_3 true a0_0 a0_1 a0_2 a0_3 l0_4 l0_5))) else (garmentref34_inRange.j3 k3 x4_3 true a0_0 a0_1 a0_2 a0_3 l0_4 l0_5)) = some r := H; have A36 := Aside0.mk A360; clear A360
               by_cases c37 : t420 = true
               ·subst c37
                have H1 : ((garmentref34_within.f ((rd_T46 l0_5 x4_3).f4.f0) (-1048576) 1048576).bind fun t421 => (if t421 = true then ((garmentref34_within.f ((rd_T46 l0_5 x4_3).f4.f1) (-1048576) 1048576).bind fun t422 => (garmentref34_inRange.j3 k3 x4_3 (!t422) a0_0 a0_1 a0_2 a0_3 l0_4 l0_5)) else (garmentref34_inRange.j3 k3 x4_3 true a0_0 a0_1 a0_2 a0_3 l0_4 l0_5))) = some r := by rw [if_pos rfl] at H; exact H
                clear H; have H := H1; clear H1; replace H := Option.bind_eq_some_iff.mp H; obtain ⟨t421, A380, H⟩ := H; replace H : (if t421 = true then ((garmentref34_within.f ((rd_T46 l0_5 x4_3).f4.f1) (-1048576) 1048576).bind fun t422 => (garmentref34_inRange.j3 k3 x4_3 (!t422) a0_0 a0_1 a0_2 a0_3 l0_4 l0_5)) else (garmentref34_inRange.j3 k3 x4_3 true a0_0 a0_1 a0_2 a0_3 l0_4 l0_5)) = some r := H; have A38 := Aside0.mk A380; clear A380
                by_cases c39 : t421 = true
                ·subst c39
                 have H1 : ((garmentref34_within.f ((rd_T46 l0_5 x4_3).f4.f1) (-1048576) 1048576).bind fun t422 => (garmentref34_inRange.j3 k3 x4_3 (!t422) a0_0 a0_1 a0_2 a0_3 l0_4 l0_5)) = some r := by rw [if_pos rfl] at H; exact H
                 clear H; have H := H1; clear H1; replace H := Option.bind_eq_some_iff.mp H; obtain ⟨t422, A400, H⟩ := H; replace H : (garmentref34_inRange.j3 k3 x4_3 (!t422) a0_0 a0_1 a0_2 a0_3 l0_4 l0_5) = some r := H; have A40 := Aside0.mk A400; clear A400; have H' := Aside0.mk H; clear H; have hnb41 := NB416_408.out; have hnc41 := NB408_416.out; have hcz42_0 := bc BK416.out 0 (.int .i64 0) rfl; have hcz42_1 := bc BK416.out 1 (.int .i64 0) rfl; have hcz42_2 := bc BK416.out 2 (.int .i64 0) rfl; have hcz42_3 := bc BK416.out 3 (.bool false) rfl; have hcz42_4 := bc BK416.out 4 (.int .i64 0) rfl; have hcz42_5 := bc BK416.out 5 (.int .i64 0) rfl; have hcz42_6 := bc BK416.out 6 (.int .i64 0) rfl; have hfz42_0 := blk_frozen BK416.out 0; have hfz42_1 := blk_frozen BK416.out 1; have hfz42_2 := blk_frozen BK416.out 2; have hfz42_3 := blk_frozen BK416.out 3; have hfz42_4 := blk_frozen BK416.out 4; have hfz42_5 := blk_frozen BK416.out 5; have hfz42_6 := blk_frozen BK416.out 6
                 go_wp2_with (first | ((with_reducible refine gate_callee (f := 32) rfl ?_); refine goesA (some 58) rfl rfl Tryd.func32 (by kernel_rfl) rfl #[.int .i64 ((rd_T46 l0_5 x4_3).f0), .int .i64 0, .int .i64 1048576] rfl ?_; (with_reducible refine (garmentref34_within.calls ((rd_T46 l0_5 x4_3).f0) 0 1048576 true _ A30.out).mono ?_); rintro e w' ⟨rfl, ⟨nd, rfl⟩⟩; refine ⟨_, rfl, ?_⟩) | (go_at_call 32; (with_reducible refine (garmentref34_within.calls ((rd_T46 l0_5 x4_3).f1) 0 1048576 true _ A32.out).mono ?_); rintro e w' ⟨rfl, ⟨nd, rfl⟩⟩) | (go_at_call 32; (with_reducible refine (garmentref34_within.calls ((rd_T46 l0_5 x4_3).f2) 0 1048576 true _ A34.out).mono ?_); rintro e w' ⟨rfl, ⟨nd, rfl⟩⟩) | (go_at_call 32; (with_reducible refine (garmentref34_within.calls ((rd_T46 l0_5 x4_3).f3.f1) 0 3 true _ A36.out).mono ?_); rintro e w' ⟨rfl, ⟨nd, rfl⟩⟩) | (go_at_call 32; (with_reducible refine (garmentref34_within.calls ((rd_T46 l0_5 x4_3).f4.f0) (-1048576) 1048576 true _ A38.out).mono ?_); rintro e w' ⟨rfl, ⟨nd, rfl⟩⟩) | (go_at_call 32; (with_reducible refine (garmentref34_within.calls ((rd_T46 l0_5 x4_3).f4.f1) (-1048576) 1048576 t422 _ A40.out).mono ?_); rintro e w' ⟨rfl, ⟨nd, rfl⟩⟩))
                 go_meet
                 case rel => exact ⟨_, (!t422), (by first | rfl | (simp; done) | (simp [*]; done)), H', ⟨by have := HJ1.out; have := HK2.out; have := HK3.out; first | omega | exact Nat.le_refl _⟩, ⟨by (with_reducible repeat (first | refine blk_drewN ?_ _ | refine blk_drew ?_ | refine blk_alloc ?_ _)); refine blk_far ?_ NB408_416.out _; (with_reducible repeat (first | refine blk_drewN ?_ _ | refine blk_drew ?_ | refine blk_alloc ?_ _)); refine blk_far ?_ NB408_416.out _; (with_reducible repeat (first | refine blk_drewN ?_ _ | refine blk_drew ?_ | refine blk_alloc ?_ _)); refine blk_far ?_ NB408_416.out _; (with_reducible repeat (first | refine blk_drewN ?_ _ | refine blk_drew ?_ | refine blk_alloc ?_ _)); refine blk_far ?_ NB408_416.out _; (with_reducible repeat (first | refine blk_drewN ?_ _ | refine blk_drew ?_ | refine blk_alloc ?_ _)); refine blk_far ?_ NB408_416.out _; (with_reducible repeat (first | refine blk_drewN ?_ _ | refine blk_drew ?_ | refine blk_alloc ?_ _)); refine blk_far ?_ NB408_416.out _; (with_reducible repeat (first | refine blk_drewN ?_ _ | refine blk_drew ?_ | refine blk_alloc ?_ _)); refine blk_far ?_ NB408_416.out _; (with_reducible repeat (first | refine blk_drewN ?_ _ | refine blk_drew ?_ | refine blk_alloc ?_ _)); exact BK408.out⟩, ⟨by (with_reducible repeat (first | refine blk_drewN ?_ _ | refine blk_drew ?_ | refine blk_alloc ?_ _)); refine blk_put (cs := #[.int .i64 ((rd_T46 l0_5 x4_3).f0), .int .i64 ((rd_T46 l0_5 x4_3).f1), .int .i64 ((rd_T46 l0_5 x4_3).f2), .bool ((rd_T46 l0_5 x4_3).f3.f0), .int .i64 ((rd_T46 l0_5 x4_3).f3.f1), .int .i64 ((rd_T46 l0_5 x4_3).f4.f0), .int .i64 0]) ?_ 6 _ rfl; (with_reducible repeat (first | refine blk_drewN ?_ _ | refine blk_drew ?_ | refine blk_alloc ?_ _)); refine blk_put (cs := #[.int .i64 ((rd_T46 l0_5 x4_3).f0), .int .i64 ((rd_T46 l0_5 x4_3).f1), .int .i64 ((rd_T46 l0_5 x4_3).f2), .bool ((rd_T46 l0_5 x4_3).f3.f0), .int .i64 ((rd_T46 l0_5 x4_3).f3.f1), .int .i64 0, .int .i64 0]) ?_ 5 _ rfl; (with_reducible repeat (first | refine blk_drewN ?_ _ | refine blk_drew ?_ | refine blk_alloc ?_ _)); refine blk_put (cs := #[.int .i64 ((rd_T46 l0_5 x4_3).f0), .int .i64 ((rd_T46 l0_5 x4_3).f1), .int .i64 ((rd_T46 l0_5 x4_3).f2), .bool ((rd_T46 l0_5 x4_3).f3.f0), .int .i64 0, .int .i64 0, .int .i64 0]) ?_ 4 _ rfl; (with_reducible repeat (first | refine blk_drewN ?_ _ | refine blk_drew ?_ | refine blk_alloc ?_ _)); refine blk_put (cs := #[.int .i64 ((rd_T46 l0_5 x4_3).f0), .int .i64 ((rd_T46 l0_5 x4_3).f1), .int .i64 ((rd_T46 l0_5 x4_3).f2), .bool false, .int .i64 0, .int .i64 0, .int .i64 0]) ?_ 3 _ rfl; (with_reducible repeat (first | refine blk_drewN ?_ _ | refine blk_drew ?_ | refine blk_alloc ?_ _)); refine blk_put (cs := #[.int .i64 ((rd_T46 l0_5 x4_3).f0), .int .i64 ((rd_T46 l0_5 x4_3).f1), .int .i64 0, .bool false, .int .i64 0, .int .i64 0, .int .i64 0]) ?_ 2 _ rfl; (with_reducible repeat (first | refine blk_drewN ?_ _ | refine blk_drew ?_ | refine blk_alloc ?_ _)); refine blk_put (cs := #[.int .i64 ((rd_T46 l0_5 x4_3).f0), .int .i64 0, .int .i64 0, .bool false, .int .i64 0, .int .i64 0, .int .i64 0]) ?_ 1 _ rfl; (with_reducible repeat (first | refine blk_drewN ?_ _ | refine blk_drew ?_ | refine blk_alloc ?_ _)); refine blk_put (cs := #[.int .i64 0, .int .i64 0, .int .i64 0, .bool false, .int .i64 0, .int .i64 0, .int .i64 0]) ?_ 0 _ rfl; (with_reducible repeat (first | refine blk_drewN ?_ _ | refine blk_drew ?_ | refine blk_alloc ?_ _)); exact BK416.out⟩, ⟨be HB.out⟩⟩
                ·replace c39 := Bool.eq_false_iff.mpr c39; subst c39
                 have H1 : (garmentref34_inRange.j3 k3 x4_3 true a0_0 a0_1 a0_2 a0_3 l0_4 l0_5) = some r := by rw [if_neg (show ¬ (false = true) by decide)] at H; exact H
                 clear H; have H := H1; clear H1; have H' := Aside0.mk H; clear H; have hnb43 := NB416_408.out; have hnc43 := NB408_416.out; have hcz44_0 := bc BK416.out 0 (.int .i64 0) rfl; have hcz44_1 := bc BK416.out 1 (.int .i64 0) rfl; have hcz44_2 := bc BK416.out 2 (.int .i64 0) rfl; have hcz44_3 := bc BK416.out 3 (.bool false) rfl; have hcz44_4 := bc BK416.out 4 (.int .i64 0) rfl; have hcz44_5 := bc BK416.out 5 (.int .i64 0) rfl; have hcz44_6 := bc BK416.out 6 (.int .i64 0) rfl; have hfz44_0 := blk_frozen BK416.out 0; have hfz44_1 := blk_frozen BK416.out 1; have hfz44_2 := blk_frozen BK416.out 2; have hfz44_3 := blk_frozen BK416.out 3; have hfz44_4 := blk_frozen BK416.out 4; have hfz44_5 := blk_frozen BK416.out 5; have hfz44_6 := blk_frozen BK416.out 6
                 go_wp2_with (first | ((with_reducible refine gate_callee (f := 32) rfl ?_); refine goesA (some 58) rfl rfl Tryd.func32 (by kernel_rfl) rfl #[.int .i64 ((rd_T46 l0_5 x4_3).f0), .int .i64 0, .int .i64 1048576] rfl ?_; (with_reducible refine (garmentref34_within.calls ((rd_T46 l0_5 x4_3).f0) 0 1048576 true _ A30.out).mono ?_); rintro e w' ⟨rfl, ⟨nd, rfl⟩⟩; refine ⟨_, rfl, ?_⟩) | (go_at_call 32; (with_reducible refine (garmentref34_within.calls ((rd_T46 l0_5 x4_3).f1) 0 1048576 true _ A32.out).mono ?_); rintro e w' ⟨rfl, ⟨nd, rfl⟩⟩) | (go_at_call 32; (with_reducible refine (garmentref34_within.calls ((rd_T46 l0_5 x4_3).f2) 0 1048576 true _ A34.out).mono ?_); rintro e w' ⟨rfl, ⟨nd, rfl⟩⟩) | (go_at_call 32; (with_reducible refine (garmentref34_within.calls ((rd_T46 l0_5 x4_3).f3.f1) 0 3 true _ A36.out).mono ?_); rintro e w' ⟨rfl, ⟨nd, rfl⟩⟩) | (go_at_call 32; (with_reducible refine (garmentref34_within.calls ((rd_T46 l0_5 x4_3).f4.f0) (-1048576) 1048576 false _ A38.out).mono ?_); rintro e w' ⟨rfl, ⟨nd, rfl⟩⟩))
                 go_meet
                 case rel => exact ⟨_, (true), (by first | rfl | (simp; done) | (simp [*]; done)), H', ⟨by have := HJ1.out; have := HK2.out; have := HK3.out; first | omega | exact Nat.le_refl _⟩, ⟨by (with_reducible repeat (first | refine blk_drewN ?_ _ | refine blk_drew ?_ | refine blk_alloc ?_ _)); refine blk_far ?_ NB408_416.out _; (with_reducible repeat (first | refine blk_drewN ?_ _ | refine blk_drew ?_ | refine blk_alloc ?_ _)); refine blk_far ?_ NB408_416.out _; (with_reducible repeat (first | refine blk_drewN ?_ _ | refine blk_drew ?_ | refine blk_alloc ?_ _)); refine blk_far ?_ NB408_416.out _; (with_reducible repeat (first | refine blk_drewN ?_ _ | refine blk_drew ?_ | refine blk_alloc ?_ _)); refine blk_far ?_ NB408_416.out _; (with_reducible repeat (first | refine blk_drewN ?_ _ | refine blk_drew ?_ | refine blk_alloc ?_ _)); refine blk_far ?_ NB408_416.out _; (with_reducible repeat (first | refine blk_drewN ?_ _ | refine blk_drew ?_ | refine blk_alloc ?_ _)); refine blk_far ?_ NB408_416.out _; (with_reducible repeat (first | refine blk_drewN ?_ _ | refine blk_drew ?_ | refine blk_alloc ?_ _)); refine blk_far ?_ NB408_416.out _; (with_reducible repeat (first | refine blk_drewN ?_ _ | refine blk_drew ?_ | refine blk_alloc ?_ _)); exact BK408.out⟩, ⟨by (with_reducible repeat (first | refine blk_drewN ?_ _ | refine blk_drew ?_ | refine blk_alloc ?_ _)); refine blk_put (cs := #[.int .i64 ((rd_T46 l0_5 x4_3).f0), .int .i64 ((rd_T46 l0_5 x4_3).f1), .int .i64 ((rd_T46 l0_5 x4_3).f2), .bool ((rd_T46 l0_5 x4_3).f3.f0), .int .i64 ((rd_T46 l0_5 x4_3).f3.f1), .int .i64 ((rd_T46 l0_5 x4_3).f4.f0), .int .i64 0]) ?_ 6 _ rfl; (with_reducible repeat (first | refine blk_drewN ?_ _ | refine blk_drew ?_ | refine blk_alloc ?_ _)); refine blk_put (cs := #[.int .i64 ((rd_T46 l0_5 x4_3).f0), .int .i64 ((rd_T46 l0_5 x4_3).f1), .int .i64 ((rd_T46 l0_5 x4_3).f2), .bool ((rd_T46 l0_5 x4_3).f3.f0), .int .i64 ((rd_T46 l0_5 x4_3).f3.f1), .int .i64 0, .int .i64 0]) ?_ 5 _ rfl; (with_reducible repeat (first | refine blk_drewN ?_ _ | refine blk_drew ?_ | refine blk_alloc ?_ _)); refine blk_put (cs := #[.int .i64 ((rd_T46 l0_5 x4_3).f0), .int .i64 ((rd_T46 l0_5 x4_3).f1), .int .i64 ((rd_T46 l0_5 x4_3).f2), .bool ((rd_T46 l0_5 x4_3).f3.f0), .int .i64 0, .int .i64 0, .int .i64 0]) ?_ 4 _ rfl; (with_reducible repeat (first | refine blk_drewN ?_ _ | refine blk_drew ?_ | refine blk_alloc ?_ _)); refine blk_put (cs := #[.int .i64 ((rd_T46 l0_5 x4_3).f0), .int .i64 ((rd_T46 l0_5 x4_3).f1), .int .i64 ((rd_T46 l0_5 x4_3).f2), .bool false, .int .i64 0, .int .i64 0, .int .i64 0]) ?_ 3 _ rfl; (with_reducible repeat (first | refine blk_drewN ?_ _ | refine blk_drew ?_ | refine blk_alloc ?_ _)); refine blk_put (cs := #[.int .i64 ((rd_T46 l0_5 x4_3).f0), .int .i64 ((rd_T46 l0_5 x4_3).f1), .int .i64 0, .bool false, .int .i64 0, .int .i64 0, .int .i64 0]) ?_ 2 _ rfl; (with_reducible repeat (first | refine blk_drewN ?_ _ | refine blk_drew ?_ | refine blk_alloc ?_ _)); refine blk_put (cs := #[.int .i64 ((rd_T46 l0_5 x4_3).f0), .int .i64 0, .int .i64 0, .bool false, .int .i64 0, .int .i64 0, .int .i64 0]) ?_ 1 _ rfl; (with_reducible repeat (first | refine blk_drewN ?_ _ | refine blk_drew ?_ | refine blk_alloc ?_ _)); refine blk_put (cs := #[.int .i64 0, .int .i64 0, .int .i64 0, .bool false, .int .i64 0, .int .i64 0, .int .i64 0]) ?_ 0 _ rfl; (with_reducible repeat (first | refine blk_drewN ?_ _ | refine blk_drew ?_ | refine blk_alloc ?_ _)); exact BK416.out⟩, ⟨be HB.out⟩⟩
               ·replace c37 := Bool.eq_false_iff.mpr c37; subst c37
                have H1 : (garmentref34_inRange.j3 k3 x4_3 true a0_0 a0_1 a0_2 a0_3 l0_4 l0_5) = some r := by rw [if_neg (show ¬ (false = true) by decide)] at H; exact H
                clear H; have H := H1; clear H1; have H' := Aside0.mk H; clear H; have hnb45 := NB416_408.out; have hnc45 := NB408_416.out; have hcz46_0 := bc BK416.out 0 (.int .i64 0) rfl; have hcz46_1 := bc BK416.out 1 (.int .i64 0) rfl; have hcz46_2 := bc BK416.out 2 (.int .i64 0) rfl; have hcz46_3 := bc BK416.out 3 (.bool false) rfl; have hcz46_4 := bc BK416.out 4 (.int .i64 0) rfl; have hcz46_5 := bc BK416.out 5 (.int .i64 0) rfl; have hcz46_6 := bc BK416.out 6 (.int .i64 0) rfl; have hfz46_0 := blk_frozen BK416.out 0; have hfz46_1 := blk_frozen BK416.out 1; have hfz46_2 := blk_frozen BK416.out 2; have hfz46_3 := blk_frozen BK416.out 3; have hfz46_4 := blk_frozen BK416.out 4; have hfz46_5 := blk_frozen BK416.out 5; have hfz46_6 := blk_frozen BK416.out 6
                go_wp2_with (first | ((with_reducible refine gate_callee (f := 32) rfl ?_); refine goesA (some 58) rfl rfl Tryd.func32 (by kernel_rfl) rfl #[.int .i64 ((rd_T46 l0_5 x4_3).f0), .int .i64 0, .int .i64 1048576] rfl ?_; (with_reducible refine (garmentref34_within.calls ((rd_T46 l0_5 x4_3).f0) 0 1048576 true _ A30.out).mono ?_); rintro e w' ⟨rfl, ⟨nd, rfl⟩⟩; refine ⟨_, rfl, ?_⟩) | (go_at_call 32; (with_reducible refine (garmentref34_within.calls ((rd_T46 l0_5 x4_3).f1) 0 1048576 true _ A32.out).mono ?_); rintro e w' ⟨rfl, ⟨nd, rfl⟩⟩) | (go_at_call 32; (with_reducible refine (garmentref34_within.calls ((rd_T46 l0_5 x4_3).f2) 0 1048576 true _ A34.out).mono ?_); rintro e w' ⟨rfl, ⟨nd, rfl⟩⟩) | (go_at_call 32; (with_reducible refine (garmentref34_within.calls ((rd_T46 l0_5 x4_3).f3.f1) 0 3 false _ A36.out).mono ?_); rintro e w' ⟨rfl, ⟨nd, rfl⟩⟩))
                go_meet
                case rel => exact ⟨_, (true), (by first | rfl | (simp; done) | (simp [*]; done)), H', ⟨by have := HJ1.out; have := HK2.out; have := HK3.out; first | omega | exact Nat.le_refl _⟩, ⟨by (with_reducible repeat (first | refine blk_drewN ?_ _ | refine blk_drew ?_ | refine blk_alloc ?_ _)); refine blk_far ?_ NB408_416.out _; (with_reducible repeat (first | refine blk_drewN ?_ _ | refine blk_drew ?_ | refine blk_alloc ?_ _)); refine blk_far ?_ NB408_416.out _; (with_reducible repeat (first | refine blk_drewN ?_ _ | refine blk_drew ?_ | refine blk_alloc ?_ _)); refine blk_far ?_ NB408_416.out _; (with_reducible repeat (first | refine blk_drewN ?_ _ | refine blk_drew ?_ | refine blk_alloc ?_ _)); refine blk_far ?_ NB408_416.out _; (with_reducible repeat (first | refine blk_drewN ?_ _ | refine blk_drew ?_ | refine blk_alloc ?_ _)); refine blk_far ?_ NB408_416.out _; (with_reducible repeat (first | refine blk_drewN ?_ _ | refine blk_drew ?_ | refine blk_alloc ?_ _)); refine blk_far ?_ NB408_416.out _; (with_reducible repeat (first | refine blk_drewN ?_ _ | refine blk_drew ?_ | refine blk_alloc ?_ _)); refine blk_far ?_ NB408_416.out _; (with_reducible repeat (first | refine blk_drewN ?_ _ | refine blk_drew ?_ | refine blk_alloc ?_ _)); exact BK408.out⟩, ⟨by (with_reducible repeat (first | refine blk_drewN ?_ _ | refine blk_drew ?_ | refine blk_alloc ?_ _)); refine blk_put (cs := #[.int .i64 ((rd_T46 l0_5 x4_3).f0), .int .i64 ((rd_T46 l0_5 x4_3).f1), .int .i64 ((rd_T46 l0_5 x4_3).f2), .bool ((rd_T46 l0_5 x4_3).f3.f0), .int .i64 ((rd_T46 l0_5 x4_3).f3.f1), .int .i64 ((rd_T46 l0_5 x4_3).f4.f0), .int .i64 0]) ?_ 6 _ rfl; (with_reducible repeat (first | refine blk_drewN ?_ _ | refine blk_drew ?_ | refine blk_alloc ?_ _)); refine blk_put (cs := #[.int .i64 ((rd_T46 l0_5 x4_3).f0), .int .i64 ((rd_T46 l0_5 x4_3).f1), .int .i64 ((rd_T46 l0_5 x4_3).f2), .bool ((rd_T46 l0_5 x4_3).f3.f0), .int .i64 ((rd_T46 l0_5 x4_3).f3.f1), .int .i64 0, .int .i64 0]) ?_ 5 _ rfl; (with_reducible repeat (first | refine blk_drewN ?_ _ | refine blk_drew ?_ | refine blk_alloc ?_ _)); refine blk_put (cs := #[.int .i64 ((rd_T46 l0_5 x4_3).f0), .int .i64 ((rd_T46 l0_5 x4_3).f1), .int .i64 ((rd_T46 l0_5 x4_3).f2), .bool ((rd_T46 l0_5 x4_3).f3.f0), .int .i64 0, .int .i64 0, .int .i64 0]) ?_ 4 _ rfl; (with_reducible repeat (first | refine blk_drewN ?_ _ | refine blk_drew ?_ | refine blk_alloc ?_ _)); refine blk_put (cs := #[.int .i64 ((rd_T46 l0_5 x4_3).f0), .int .i64 ((rd_T46 l0_5 x4_3).f1), .int .i64 ((rd_T46 l0_5 x4_3).f2), .bool false, .int .i64 0, .int .i64 0, .int .i64 0]) ?_ 3 _ rfl; (with_reducible repeat (first | refine blk_drewN ?_ _ | refine blk_drew ?_ | refine blk_alloc ?_ _)); refine blk_put (cs := #[.int .i64 ((rd_T46 l0_5 x4_3).f0), .int .i64 ((rd_T46 l0_5 x4_3).f1), .int .i64 0, .bool false, .int .i64 0, .int .i64 0, .int .i64 0]) ?_ 2 _ rfl; (with_reducible repeat (first | refine blk_drewN ?_ _ | refine blk_drew ?_ | refine blk_alloc ?_ _)); refine blk_put (cs := #[.int .i64 ((rd_T46 l0_5 x4_3).f0), .int .i64 0, .int .i64 0, .bool false, .int .i64 0, .int .i64 0, .int .i64 0]) ?_ 1 _ rfl; (with_reducible repeat (first | refine blk_drewN ?_ _ | refine blk_drew ?_ | refine blk_alloc ?_ _)); refine blk_put (cs := #[.int .i64 0, .int .i64 0, .int .i64 0, .bool false, .int .i64 0, .int .i64 0, .int .i64 0]) ?_ 0 _ rfl; (with_reducible repeat (first | refine blk_drewN ?_ _ | refine blk_drew ?_ | refine blk_alloc ?_ _)); exact BK416.out⟩, ⟨be HB.out⟩⟩
              ·replace c35 := Bool.eq_false_iff.mpr c35; subst c35
               have H1 : (garmentref34_inRange.j3 k3 x4_3 true a0_0 a0_1 a0_2 a0_3 l0_4 l0_5) = some r := by rw [if_neg (show ¬ (false = true) by decide)] at H; exact H
               clear H; have H := H1; clear H1; have H' := Aside0.mk H; clear H; have hnb47 := NB416_408.out; have hnc47 := NB408_416.out; have hcz48_0 := bc BK416.out 0 (.int .i64 0) rfl; have hcz48_1 := bc BK416.out 1 (.int .i64 0) rfl; have hcz48_2 := bc BK416.out 2 (.int .i64 0) rfl; have hcz48_3 := bc BK416.out 3 (.bool false) rfl; have hcz48_4 := bc BK416.out 4 (.int .i64 0) rfl; have hcz48_5 := bc BK416.out 5 (.int .i64 0) rfl; have hcz48_6 := bc BK416.out 6 (.int .i64 0) rfl; have hfz48_0 := blk_frozen BK416.out 0; have hfz48_1 := blk_frozen BK416.out 1; have hfz48_2 := blk_frozen BK416.out 2; have hfz48_3 := blk_frozen BK416.out 3; have hfz48_4 := blk_frozen BK416.out 4; have hfz48_5 := blk_frozen BK416.out 5; have hfz48_6 := blk_frozen BK416.out 6
               go_wp2_with (first | ((with_reducible refine gate_callee (f := 32) rfl ?_); refine goesA (some 58) rfl rfl Tryd.func32 (by kernel_rfl) rfl #[.int .i64 ((rd_T46 l0_5 x4_3).f0), .int .i64 0, .int .i64 1048576] rfl ?_; (with_reducible refine (garmentref34_within.calls ((rd_T46 l0_5 x4_3).f0) 0 1048576 true _ A30.out).mono ?_); rintro e w' ⟨rfl, ⟨nd, rfl⟩⟩; refine ⟨_, rfl, ?_⟩) | (go_at_call 32; (with_reducible refine (garmentref34_within.calls ((rd_T46 l0_5 x4_3).f1) 0 1048576 true _ A32.out).mono ?_); rintro e w' ⟨rfl, ⟨nd, rfl⟩⟩) | (go_at_call 32; (with_reducible refine (garmentref34_within.calls ((rd_T46 l0_5 x4_3).f2) 0 1048576 false _ A34.out).mono ?_); rintro e w' ⟨rfl, ⟨nd, rfl⟩⟩))
               go_meet
               case rel => exact ⟨_, (true), (by first | rfl | (simp; done) | (simp [*]; done)), H', ⟨by have := HJ1.out; have := HK2.out; have := HK3.out; first | omega | exact Nat.le_refl _⟩, ⟨by (with_reducible repeat (first | refine blk_drewN ?_ _ | refine blk_drew ?_ | refine blk_alloc ?_ _)); refine blk_far ?_ NB408_416.out _; (with_reducible repeat (first | refine blk_drewN ?_ _ | refine blk_drew ?_ | refine blk_alloc ?_ _)); refine blk_far ?_ NB408_416.out _; (with_reducible repeat (first | refine blk_drewN ?_ _ | refine blk_drew ?_ | refine blk_alloc ?_ _)); refine blk_far ?_ NB408_416.out _; (with_reducible repeat (first | refine blk_drewN ?_ _ | refine blk_drew ?_ | refine blk_alloc ?_ _)); refine blk_far ?_ NB408_416.out _; (with_reducible repeat (first | refine blk_drewN ?_ _ | refine blk_drew ?_ | refine blk_alloc ?_ _)); refine blk_far ?_ NB408_416.out _; (with_reducible repeat (first | refine blk_drewN ?_ _ | refine blk_drew ?_ | refine blk_alloc ?_ _)); refine blk_far ?_ NB408_416.out _; (with_reducible repeat (first | refine blk_drewN ?_ _ | refine blk_drew ?_ | refine blk_alloc ?_ _)); refine blk_far ?_ NB408_416.out _; (with_reducible repeat (first | refine blk_drewN ?_ _ | refine blk_drew ?_ | refine blk_alloc ?_ _)); exact BK408.out⟩, ⟨by (with_reducible repeat (first | refine blk_drewN ?_ _ | refine blk_drew ?_ | refine blk_alloc ?_ _)); refine blk_put (cs := #[.int .i64 ((rd_T46 l0_5 x4_3).f0), .int .i64 ((rd_T46 l0_5 x4_3).f1), .int .i64 ((rd_T46 l0_5 x4_3).f2), .bool ((rd_T46 l0_5 x4_3).f3.f0), .int .i64 ((rd_T46 l0_5 x4_3).f3.f1), .int .i64 ((rd_T46 l0_5 x4_3).f4.f0), .int .i64 0]) ?_ 6 _ rfl; (with_reducible repeat (first | refine blk_drewN ?_ _ | refine blk_drew ?_ | refine blk_alloc ?_ _)); refine blk_put (cs := #[.int .i64 ((rd_T46 l0_5 x4_3).f0), .int .i64 ((rd_T46 l0_5 x4_3).f1), .int .i64 ((rd_T46 l0_5 x4_3).f2), .bool ((rd_T46 l0_5 x4_3).f3.f0), .int .i64 ((rd_T46 l0_5 x4_3).f3.f1), .int .i64 0, .int .i64 0]) ?_ 5 _ rfl; (with_reducible repeat (first | refine blk_drewN ?_ _ | refine blk_drew ?_ | refine blk_alloc ?_ _)); refine blk_put (cs := #[.int .i64 ((rd_T46 l0_5 x4_3).f0), .int .i64 ((rd_T46 l0_5 x4_3).f1), .int .i64 ((rd_T46 l0_5 x4_3).f2), .bool ((rd_T46 l0_5 x4_3).f3.f0), .int .i64 0, .int .i64 0, .int .i64 0]) ?_ 4 _ rfl; (with_reducible repeat (first | refine blk_drewN ?_ _ | refine blk_drew ?_ | refine blk_alloc ?_ _)); refine blk_put (cs := #[.int .i64 ((rd_T46 l0_5 x4_3).f0), .int .i64 ((rd_T46 l0_5 x4_3).f1), .int .i64 ((rd_T46 l0_5 x4_3).f2), .bool false, .int .i64 0, .int .i64 0, .int .i64 0]) ?_ 3 _ rfl; (with_reducible repeat (first | refine blk_drewN ?_ _ | refine blk_drew ?_ | refine blk_alloc ?_ _)); refine blk_put (cs := #[.int .i64 ((rd_T46 l0_5 x4_3).f0), .int .i64 ((rd_T46 l0_5 x4_3).f1), .int .i64 0, .bool false, .int .i64 0, .int .i64 0, .int .i64 0]) ?_ 2 _ rfl; (with_reducible repeat (first | refine blk_drewN ?_ _ | refine blk_drew ?_ | refine blk_alloc ?_ _)); refine blk_put (cs := #[.int .i64 ((rd_T46 l0_5 x4_3).f0), .int .i64 0, .int .i64 0, .bool false, .int .i64 0, .int .i64 0, .int .i64 0]) ?_ 1 _ rfl; (with_reducible repeat (first | refine blk_drewN ?_ _ | refine blk_drew ?_ | refine blk_alloc ?_ _)); refine blk_put (cs := #[.int .i64 0, .int .i64 0, .int .i64 0, .bool false, .int .i64 0, .int .i64 0, .int .i64 0]) ?_ 0 _ rfl; (with_reducible repeat (first | refine blk_drewN ?_ _ | refine blk_drew ?_ | refine blk_alloc ?_ _)); exact BK416.out⟩, ⟨be HB.out⟩⟩
             ·replace c33 := Bool.eq_false_iff.mpr c33; subst c33
              have H1 : (garmentref34_inRange.j3 k3 x4_3 true a0_0 a0_1 a0_2 a0_3 l0_4 l0_5) = some r := by rw [if_neg (show ¬ (false = true) by decide)] at H; exact H
              clear H; have H := H1; clear H1; have H' := Aside0.mk H; clear H; have hnb49 := NB416_408.out; have hnc49 := NB408_416.out; have hcz50_0 := bc BK416.out 0 (.int .i64 0) rfl; have hcz50_1 := bc BK416.out 1 (.int .i64 0) rfl; have hcz50_2 := bc BK416.out 2 (.int .i64 0) rfl; have hcz50_3 := bc BK416.out 3 (.bool false) rfl; have hcz50_4 := bc BK416.out 4 (.int .i64 0) rfl; have hcz50_5 := bc BK416.out 5 (.int .i64 0) rfl; have hcz50_6 := bc BK416.out 6 (.int .i64 0) rfl; have hfz50_0 := blk_frozen BK416.out 0; have hfz50_1 := blk_frozen BK416.out 1; have hfz50_2 := blk_frozen BK416.out 2; have hfz50_3 := blk_frozen BK416.out 3; have hfz50_4 := blk_frozen BK416.out 4; have hfz50_5 := blk_frozen BK416.out 5; have hfz50_6 := blk_frozen BK416.out 6
              go_wp2_with (first | ((with_reducible refine gate_callee (f := 32) rfl ?_); refine goesA (some 58) rfl rfl Tryd.func32 (by kernel_rfl) rfl #[.int .i64 ((rd_T46 l0_5 x4_3).f0), .int .i64 0, .int .i64 1048576] rfl ?_; (with_reducible refine (garmentref34_within.calls ((rd_T46 l0_5 x4_3).f0) 0 1048576 true _ A30.out).mono ?_); rintro e w' ⟨rfl, ⟨nd, rfl⟩⟩; refine ⟨_, rfl, ?_⟩) | (go_at_call 32; (with_reducible refine (garmentref34_within.calls ((rd_T46 l0_5 x4_3).f1) 0 1048576 false _ A32.out).mono ?_); rintro e w' ⟨rfl, ⟨nd, rfl⟩⟩))
              go_meet
              case rel => exact ⟨_, (true), (by first | rfl | (simp; done) | (simp [*]; done)), H', ⟨by have := HJ1.out; have := HK2.out; have := HK3.out; first | omega | exact Nat.le_refl _⟩, ⟨by (with_reducible repeat (first | refine blk_drewN ?_ _ | refine blk_drew ?_ | refine blk_alloc ?_ _)); refine blk_far ?_ NB408_416.out _; (with_reducible repeat (first | refine blk_drewN ?_ _ | refine blk_drew ?_ | refine blk_alloc ?_ _)); refine blk_far ?_ NB408_416.out _; (with_reducible repeat (first | refine blk_drewN ?_ _ | refine blk_drew ?_ | refine blk_alloc ?_ _)); refine blk_far ?_ NB408_416.out _; (with_reducible repeat (first | refine blk_drewN ?_ _ | refine blk_drew ?_ | refine blk_alloc ?_ _)); refine blk_far ?_ NB408_416.out _; (with_reducible repeat (first | refine blk_drewN ?_ _ | refine blk_drew ?_ | refine blk_alloc ?_ _)); refine blk_far ?_ NB408_416.out _; (with_reducible repeat (first | refine blk_drewN ?_ _ | refine blk_drew ?_ | refine blk_alloc ?_ _)); refine blk_far ?_ NB408_416.out _; (with_reducible repeat (first | refine blk_drewN ?_ _ | refine blk_drew ?_ | refine blk_alloc ?_ _)); refine blk_far ?_ NB408_416.out _; (with_reducible repeat (first | refine blk_drewN ?_ _ | refine blk_drew ?_ | refine blk_alloc ?_ _)); exact BK408.out⟩, ⟨by (with_reducible repeat (first | refine blk_drewN ?_ _ | refine blk_drew ?_ | refine blk_alloc ?_ _)); refine blk_put (cs := #[.int .i64 ((rd_T46 l0_5 x4_3).f0), .int .i64 ((rd_T46 l0_5 x4_3).f1), .int .i64 ((rd_T46 l0_5 x4_3).f2), .bool ((rd_T46 l0_5 x4_3).f3.f0), .int .i64 ((rd_T46 l0_5 x4_3).f3.f1), .int .i64 ((rd_T46 l0_5 x4_3).f4.f0), .int .i64 0]) ?_ 6 _ rfl; (with_reducible repeat (first | refine blk_drewN ?_ _ | refine blk_drew ?_ | refine blk_alloc ?_ _)); refine blk_put (cs := #[.int .i64 ((rd_T46 l0_5 x4_3).f0), .int .i64 ((rd_T46 l0_5 x4_3).f1), .int .i64 ((rd_T46 l0_5 x4_3).f2), .bool ((rd_T46 l0_5 x4_3).f3.f0), .int .i64 ((rd_T46 l0_5 x4_3).f3.f1), .int .i64 0, .int .i64 0]) ?_ 5 _ rfl; (with_reducible repeat (first | refine blk_drewN ?_ _ | refine blk_drew ?_ | refine blk_alloc ?_ _)); refine blk_put (cs := #[.int .i64 ((rd_T46 l0_5 x4_3).f0), .int .i64 ((rd_T46 l0_5 x4_3).f1), .int .i64 ((rd_T46 l0_5 x4_3).f2), .bool ((rd_T46 l0_5 x4_3).f3.f0), .int .i64 0, .int .i64 0, .int .i64 0]) ?_ 4 _ rfl; (with_reducible repeat (first | refine blk_drewN ?_ _ | refine blk_drew ?_ | refine blk_alloc ?_ _)); refine blk_put (cs := #[.int .i64 ((rd_T46 l0_5 x4_3).f0), .int .i64 ((rd_T46 l0_5 x4_3).f1), .int .i64 ((rd_T46 l0_5 x4_3).f2), .bool false, .int .i64 0, .int .i64 0, .int .i64 0]) ?_ 3 _ rfl; (with_reducible repeat (first | refine blk_drewN ?_ _ | refine blk_drew ?_ | refine blk_alloc ?_ _)); refine blk_put (cs := #[.int .i64 ((rd_T46 l0_5 x4_3).f0), .int .i64 ((rd_T46 l0_5 x4_3).f1), .int .i64 0, .bool false, .int .i64 0, .int .i64 0, .int .i64 0]) ?_ 2 _ rfl; (with_reducible repeat (first | refine blk_drewN ?_ _ | refine blk_drew ?_ | refine blk_alloc ?_ _)); refine blk_put (cs := #[.int .i64 ((rd_T46 l0_5 x4_3).f0), .int .i64 0, .int .i64 0, .bool false, .int .i64 0, .int .i64 0, .int .i64 0]) ?_ 1 _ rfl; (with_reducible repeat (first | refine blk_drewN ?_ _ | refine blk_drew ?_ | refine blk_alloc ?_ _)); refine blk_put (cs := #[.int .i64 0, .int .i64 0, .int .i64 0, .bool false, .int .i64 0, .int .i64 0, .int .i64 0]) ?_ 0 _ rfl; (with_reducible repeat (first | refine blk_drewN ?_ _ | refine blk_drew ?_ | refine blk_alloc ?_ _)); exact BK416.out⟩, ⟨be HB.out⟩⟩
            ·replace c31 := Bool.eq_false_iff.mpr c31; subst c31
             have H1 : (garmentref34_inRange.j3 k3 x4_3 true a0_0 a0_1 a0_2 a0_3 l0_4 l0_5) = some r := by rw [if_neg (show ¬ (false = true) by decide)] at H; exact H
             clear H; have H := H1; clear H1; have H' := Aside0.mk H; clear H; have hnb51 := NB416_408.out; have hnc51 := NB408_416.out; have hcz52_0 := bc BK416.out 0 (.int .i64 0) rfl; have hcz52_1 := bc BK416.out 1 (.int .i64 0) rfl; have hcz52_2 := bc BK416.out 2 (.int .i64 0) rfl; have hcz52_3 := bc BK416.out 3 (.bool false) rfl; have hcz52_4 := bc BK416.out 4 (.int .i64 0) rfl; have hcz52_5 := bc BK416.out 5 (.int .i64 0) rfl; have hcz52_6 := bc BK416.out 6 (.int .i64 0) rfl; have hfz52_0 := blk_frozen BK416.out 0; have hfz52_1 := blk_frozen BK416.out 1; have hfz52_2 := blk_frozen BK416.out 2; have hfz52_3 := blk_frozen BK416.out 3; have hfz52_4 := blk_frozen BK416.out 4; have hfz52_5 := blk_frozen BK416.out 5; have hfz52_6 := blk_frozen BK416.out 6
             go_wp2_with (first | ((with_reducible refine gate_callee (f := 32) rfl ?_); refine goesA (some 58) rfl rfl Tryd.func32 (by kernel_rfl) rfl #[.int .i64 ((rd_T46 l0_5 x4_3).f0), .int .i64 0, .int .i64 1048576] rfl ?_; (with_reducible refine (garmentref34_within.calls ((rd_T46 l0_5 x4_3).f0) 0 1048576 false _ A30.out).mono ?_); rintro e w' ⟨rfl, ⟨nd, rfl⟩⟩; refine ⟨_, rfl, ?_⟩))
             go_meet
             case rel => exact ⟨_, (true), (by first | rfl | (simp; done) | (simp [*]; done)), H', ⟨by have := HJ1.out; have := HK2.out; have := HK3.out; first | omega | exact Nat.le_refl _⟩, ⟨by (with_reducible repeat (first | refine blk_drewN ?_ _ | refine blk_drew ?_ | refine blk_alloc ?_ _)); refine blk_far ?_ NB408_416.out _; (with_reducible repeat (first | refine blk_drewN ?_ _ | refine blk_drew ?_ | refine blk_alloc ?_ _)); refine blk_far ?_ NB408_416.out _; (with_reducible repeat (first | refine blk_drewN ?_ _ | refine blk_drew ?_ | refine blk_alloc ?_ _)); refine blk_far ?_ NB408_416.out _; (with_reducible repeat (first | refine blk_drewN ?_ _ | refine blk_drew ?_ | refine blk_alloc ?_ _)); refine blk_far ?_ NB408_416.out _; (with_reducible repeat (first | refine blk_drewN ?_ _ | refine blk_drew ?_ | refine blk_alloc ?_ _)); refine blk_far ?_ NB408_416.out _; (with_reducible repeat (first | refine blk_drewN ?_ _ | refine blk_drew ?_ | refine blk_alloc ?_ _)); refine blk_far ?_ NB408_416.out _; (with_reducible repeat (first | refine blk_drewN ?_ _ | refine blk_drew ?_ | refine blk_alloc ?_ _)); refine blk_far ?_ NB408_416.out _; (with_reducible repeat (first | refine blk_drewN ?_ _ | refine blk_drew ?_ | refine blk_alloc ?_ _)); exact BK408.out⟩, ⟨by (with_reducible repeat (first | refine blk_drewN ?_ _ | refine blk_drew ?_ | refine blk_alloc ?_ _)); refine blk_put (cs := #[.int .i64 ((rd_T46 l0_5 x4_3).f0), .int .i64 ((rd_T46 l0_5 x4_3).f1), .int .i64 ((rd_T46 l0_5 x4_3).f2), .bool ((rd_T46 l0_5 x4_3).f3.f0), .int .i64 ((rd_T46 l0_5 x4_3).f3.f1), .int .i64 ((rd_T46 l0_5 x4_3).f4.f0), .int .i64 0]) ?_ 6 _ rfl; (with_reducible repeat (first | refine blk_drewN ?_ _ | refine blk_drew ?_ | refine blk_alloc ?_ _)); refine blk_put (cs := #[.int .i64 ((rd_T46 l0_5 x4_3).f0), .int .i64 ((rd_T46 l0_5 x4_3).f1), .int .i64 ((rd_T46 l0_5 x4_3).f2), .bool ((rd_T46 l0_5 x4_3).f3.f0), .int .i64 ((rd_T46 l0_5 x4_3).f3.f1), .int .i64 0, .int .i64 0]) ?_ 5 _ rfl; (with_reducible repeat (first | refine blk_drewN ?_ _ | refine blk_drew ?_ | refine blk_alloc ?_ _)); refine blk_put (cs := #[.int .i64 ((rd_T46 l0_5 x4_3).f0), .int .i64 ((rd_T46 l0_5 x4_3).f1), .int .i64 ((rd_T46 l0_5 x4_3).f2), .bool ((rd_T46 l0_5 x4_3).f3.f0), .int .i64 0, .int .i64 0, .int .i64 0]) ?_ 4 _ rfl; (with_reducible repeat (first | refine blk_drewN ?_ _ | refine blk_drew ?_ | refine blk_alloc ?_ _)); refine blk_put (cs := #[.int .i64 ((rd_T46 l0_5 x4_3).f0), .int .i64 ((rd_T46 l0_5 x4_3).f1), .int .i64 ((rd_T46 l0_5 x4_3).f2), .bool false, .int .i64 0, .int .i64 0, .int .i64 0]) ?_ 3 _ rfl; (with_reducible repeat (first | refine blk_drewN ?_ _ | refine blk_drew ?_ | refine blk_alloc ?_ _)); refine blk_put (cs := #[.int .i64 ((rd_T46 l0_5 x4_3).f0), .int .i64 ((rd_T46 l0_5 x4_3).f1), .int .i64 0, .bool false, .int .i64 0, .int .i64 0, .int .i64 0]) ?_ 2 _ rfl; (with_reducible repeat (first | refine blk_drewN ?_ _ | refine blk_drew ?_ | refine blk_alloc ?_ _)); refine blk_put (cs := #[.int .i64 ((rd_T46 l0_5 x4_3).f0), .int .i64 0, .int .i64 0, .bool false, .int .i64 0, .int .i64 0, .int .i64 0]) ?_ 1 _ rfl; (with_reducible repeat (first | refine blk_drewN ?_ _ | refine blk_drew ?_ | refine blk_alloc ?_ _)); refine blk_put (cs := #[.int .i64 0, .int .i64 0, .int .i64 0, .bool false, .int .i64 0, .int .i64 0, .int .i64 0]) ?_ 0 _ rfl; (with_reducible repeat (first | refine blk_drewN ?_ _ | refine blk_drew ?_ | refine blk_alloc ?_ _)); exact BK416.out⟩, ⟨be HB.out⟩⟩
           case rest =>
            clear HC25
            try clear c1
            try clear c2
            try clear p2
            try clear c3
            try clear c4
            try clear p4
            try clear q4
            try clear hx4
            try clear c5
            try clear p6
            try clear c7
            try clear c9
            try clear c15
            try clear c16
            try clear c16b0
            try clear c17
            try clear c17b0
            try clear c19
            try clear c21
            try clear c23
            try clear c23b0
            try clear c24
            try clear c24b0
            try clear c28
            try clear c31
            try clear c32
            try clear c33
            try clear c35
            try clear c37
            try clear c39
            try clear c41
            try clear p41
            try clear q41
            try clear hx41
            try clear c43
            try clear c45
            try clear c47
            try clear c49
            try clear c51
            try clear hcz11_0 hcz11_1 hcz11_2 hcz11_3 hcz11_4 hcz11_5
            try clear hcz12_0 hcz12_1 hcz12_2 hcz12_3 hcz12_4 hcz12_5
            try clear hcz13_0 hcz13_1 hcz13_2 hcz13_3 hcz13_4 hcz13_5
            try clear hcz14_0 hcz14_1 hcz14_2 hcz14_3 hcz14_4 hcz14_5
            try clear hcz20_0 hcz20_1 hcz20_2 hcz20_3 hcz20_4 hcz20_5
            try clear hcz21_0 hcz21_1 hcz21_2 hcz21_3 hcz21_4 hcz21_5
            try clear hcz22_0 hcz22_1 hcz22_2 hcz22_3 hcz22_4 hcz22_5
            try clear hcz26_0 hcz26_1 hcz26_2 hcz26_3 hcz26_4 hcz26_5
            try clear hcz29_0 hcz29_1 hcz29_2 hcz29_3 hcz29_4 hcz29_5 hcz29_6
            try clear hcz42_0 hcz42_1 hcz42_2 hcz42_3 hcz42_4 hcz42_5 hcz42_6
            try clear hcz44_0 hcz44_1 hcz44_2 hcz44_3 hcz44_4 hcz44_5 hcz44_6
            try clear hcz46_0 hcz46_1 hcz46_2 hcz46_3 hcz46_4 hcz46_5 hcz46_6
            try clear hcz48_0 hcz48_1 hcz48_2 hcz48_3 hcz48_4 hcz48_5 hcz48_6
            try clear hcz50_0 hcz50_1 hcz50_2 hcz50_3 hcz50_4 hcz50_5 hcz50_6
            try clear hcz52_0 hcz52_1 hcz52_2 hcz52_3 hcz52_4 hcz52_5 hcz52_6
            try clear hfz11_0 hfz11_1 hfz11_2 hfz11_3 hfz11_4 hfz11_5
            try clear hfz12_0 hfz12_1 hfz12_2 hfz12_3 hfz12_4 hfz12_5
            try clear hfz13_0 hfz13_1 hfz13_2 hfz13_3 hfz13_4 hfz13_5
            try clear hfz14_0 hfz14_1 hfz14_2 hfz14_3 hfz14_4 hfz14_5
            try clear hfz20_0 hfz20_1 hfz20_2 hfz20_3 hfz20_4 hfz20_5
            try clear hfz21_0 hfz21_1 hfz21_2 hfz21_3 hfz21_4 hfz21_5
            try clear hfz22_0 hfz22_1 hfz22_2 hfz22_3 hfz22_4 hfz22_5
            try clear hfz26_0 hfz26_1 hfz26_2 hfz26_3 hfz26_4 hfz26_5
            try clear hfz29_0 hfz29_1 hfz29_2 hfz29_3 hfz29_4 hfz29_5 hfz29_6
            try clear hfz42_0 hfz42_1 hfz42_2 hfz42_3 hfz42_4 hfz42_5 hfz42_6
            try clear hfz44_0 hfz44_1 hfz44_2 hfz44_3 hfz44_4 hfz44_5 hfz44_6
            try clear hfz46_0 hfz46_1 hfz46_2 hfz46_3 hfz46_4 hfz46_5 hfz46_6
            try clear hfz48_0 hfz48_1 hfz48_2 hfz48_3 hfz48_4 hfz48_5 hfz48_6
            try clear hfz50_0 hfz50_1 hfz50_2 hfz50_3 hfz50_4 hfz50_5 hfz50_6
            try clear hfz52_0 hfz52_1 hfz52_2 hfz52_3 hfz52_4 hfz52_5 hfz52_6
            try clear hx413_0
            try clear hx415_0
            try clear hx415_1
            try clear hx415_2
            try clear hx415_3
            try clear hx415_4
            try clear hx415_5
            try clear hx415_6
            try clear p2
            try clear p4
            try clear p413
            try clear p415
            try clear p6
            try clear q4
            try clear q413
            try clear q415
            obtain ⟨kq, x92_24, rfl, HA, HJ24, BK408, BK416, HB⟩ := hcut
            cases kq with
            | zero => exact absurd HA.out (by simp [garmentref34_inRange.j3])
            | succ kj24 =>
             have H := HA.out; clear HA; simp only [garmentref34_inRange.j3] at H
             by_cases c53 : x92_24 = true
             ·subst c53
              have H1 : (some false) = some r := by rw [if_pos rfl] at H; exact H
              clear H; have H := H1; clear H1; obtain rfl := Option.some.inj H
              go_wp2
              go_ret
              exact ⟨by first | rfl | (simp [errW_none, errW_some] <;> rfl) | (simp [*, errW_none, errW_some] <;> rfl), be HB.out⟩
             ·replace c53 := Bool.eq_false_iff.mpr c53; subst c53
              have H1 : (garmentref34_inRange.l1 kj24 (wrap64 (x4_3 + 1)) a0_0 a0_1 a0_2 a0_3 l0_4 l0_5) = some r := by rw [if_neg (show ¬ (false = true) by decide)] at H; exact H
              clear H; have H := H1; clear H1; have H' := Aside0.mk H; clear H
              go_wp2
              go_roundg kj24
              case measure => have := HJ1.out; have := HK2.out; have := HK3.out; have := HJ24.out; omega
              case rel => exact ⟨(wrap64 (x4_3 + 1)), (by first | rfl | (simp; done) | (simp [*]; done)), H', ⟨by have := HJ1.out; have := HK2.out; have := HK3.out; have := HJ24.out; omega⟩, ⟨bu (BK408.out)⟩, ⟨be HB.out⟩⟩
          ·rw [if_neg c24] at H; exact absurd H (by simp)
         ·rw [if_neg c23] at H; have c23b0 : decide (x4_3 < (l0_5.length : Int)) = false := decide_eq_false c23; clear c23; obtain rfl := Option.some.inj H; have hcz54_0 := bc BK408.out 0 (.int .i64 a0_0) rfl; have hcz54_1 := bc BK408.out 1 (.int .i64 a0_1) rfl; have hcz54_2 := bc BK408.out 2 (.int .i64 a0_2) rfl; have hcz54_3 := bc BK408.out 3 (.int .i64 a0_3) rfl; have hcz54_4 := bc BK408.out 4 (.slice A0_4 l0_4.length c0_4) rfl; have hcz54_5 := bc BK408.out 5 (.slice A0_5 l0_5.length c0_5) rfl; have hfz54_0 := blk_frozen BK408.out 0; have hfz54_1 := blk_frozen BK408.out 1; have hfz54_2 := blk_frozen BK408.out 2; have hfz54_3 := blk_frozen BK408.out 3; have hfz54_4 := blk_frozen BK408.out 4; have hfz54_5 := blk_frozen BK408.out 5
          go_wp2
          go_ret
          exact ⟨by first | rfl | (simp [errW_none, errW_some] <;> rfl) | (simp [*, errW_none, errW_some] <;> rfl), be HB.out⟩

end Go.Proofs.YtghnjnegcdbgnaaDoor.P
namespace Go.Proofs.YtghnjnegcdbgnaaDoor.P
open Go.RowKit Go.Proofs.YtghnjnegcdbgnaaDoorW.PrintWords Go.Proofs.YtghnjnegcdbgnaaDoorW.PrintLast Go.Proofs.YtghnjnegcdbgnaaDoorW.PrintMore Go.Proofs.YtghnjnegcdbgnaaDoorW.PrintAuto
attribute [local go_sem] max2_int min2_int max_two min_two max_three min_three max_four min_four   -- for this text's walks alone
set_option linter.unusedVariables false
set_option linter.unusedSimpArgs false

def garmentref34_number.f : Nat → Int → Option (ByteArray)
 | 0, _ => none
 | k + 1, a0 => if a0 < 0 then ((garmentref34_number.f k (wrap64 (-a0))).bind fun t423 => (if 1 + t423.size ≤ 9223372036854775807 then (some ((⟨#[45]⟩ : ByteArray) ++ t423)) else (none))) else (if a0 < 10 then (some (strOfNums (([(wrap64 (48 + a0)) % 256] : List Int)))) else ((garmentref34_number.f k (wrap64 (Int.tdiv a0 10))).bind fun t427 => ((garmentref34_number.f k (Int.tmod a0 10)).bind fun t428 => (if t427.size + t428.size ≤ 9223372036854775807 then (some (t427 ++ t428)) else (none)))))
theorem garmentref34_number.mono_l : ∀ k, (∀ y0, LeO (garmentref34_number.f k y0) (garmentref34_number.f (k + 1) y0))
 | 0 => fun _ r h => by simp [garmentref34_number.f] at h
 | k + 1 => by
  have ih0 := garmentref34_number.mono_l k
  ·intro y0
   unfold garmentref34_number.f
   repeat' first
   | (with_reducible exact ih0 _)
   | (with_reducible exact LeO.refl _)
   | (with_reducible exact LeO.none _)
   | (with_reducible refine LeO.ite ?_ ?_)
   | (with_reducible refine LeO.bind ?_ (fun _ => ?_))
   | exact ih0 _
   | exact LeO.none _
   | refine LeO.ite ?_ ?_
   | refine LeO.bind ?_ (fun _ => ?_)
theorem garmentref34_number.mono : ∀ a0 k, LeO (garmentref34_number.f k a0) (garmentref34_number.f (k + 1) a0) := by
 intro a0 k; have ih0 := garmentref34_number.mono_l k; exact ih0 a0
set_option maxHeartbeats 8000000 in
set_option maxRecDepth 100000 in
theorem garmentref34_number.calls (k : Nat) : ∀ (a0 : Int) (r : ByteArray) (w : World) (h : garmentref34_number.f k a0 = some r),
  Calls Tryd.prog 22 #[.int .i64 a0] w fun e w' => e = .returned (.string r) ∧ Below w.heap.size w w' := by
 induction k using Nat.strongRecOn with
 | _ k ih =>
 intro a0 r w h
 cases k with
 | zero => exact absurd h (by simp [garmentref34_number.f])
 | succ k =>
 simp only [garmentref34_number.f] at h; have HB := Aside0.mk (Below.refl w.heap.size w); have H : (if a0 < 0 then ((garmentref34_number.f k (wrap64 (-a0))).bind fun t423 => (if 1 + t423.size ≤ 9223372036854775807 then (some ((⟨#[45]⟩ : ByteArray) ++ t423)) else (none))) else (if a0 < 10 then (some (strOfNums (([(wrap64 (48 + a0)) % 256] : List Int)))) else ((garmentref34_number.f k (wrap64 (Int.tdiv a0 10))).bind fun t427 => ((garmentref34_number.f k (Int.tmod a0 10)).bind fun t428 => (if t427.size + t428.size ≤ 9223372036854775807 then (some (t427 ++ t428)) else (none)))))) = some r := h; clear h
 by_cases c2 : a0 < 0
 ·rw [if_pos c2] at H; have c2b0 : decide (a0 < 0) = true := decide_eq_true c2; clear c2; replace H := Option.bind_eq_some_iff.mp H; obtain ⟨t423, A30, H⟩ := H; replace H : (if 1 + t423.size ≤ 9223372036854775807 then (some ((⟨#[45]⟩ : ByteArray) ++ t423)) else (none)) = some r := H; have A3 := Aside0.mk A30; clear A30
  by_cases c4 : 1 + t423.size ≤ 9223372036854775807
  ·rw [if_pos c4] at H; have c4b0 := eq_true c4; have c4b1 : decide (1 + t423.size ≤ 9223372036854775807) = true := decide_eq_true c4
   try have c4b2 : (9223372036854775807 < 1 + t423.size) = False := eq_false (Nat.not_lt.2 c4)
   obtain rfl := Option.some.inj H
   go_enter Tryd.func22, Tryd.ntmps22
   go_wp2_with (first | ((with_reducible refine gate_callee (f := 22) rfl ?_); refine goesA (some 7) rfl rfl Tryd.func22 (by kernel_rfl) rfl #[.int .i64 (wrap64 (-a0))] rfl ?_; (with_reducible refine (ih k (by omega) (wrap64 (-a0)) t423 _ A3.out).mono ?_); rintro e w5 ⟨rfl, hb⟩; refine ⟨_, rfl, ?_⟩; replace HB := Aside0.mk (below_step (be HB.out) hb); (try clear hb)))
   go_ret
   exact ⟨by first | rfl | (simp [errW_none, errW_some] <;> rfl) | (simp [*, errW_none, errW_some] <;> rfl), be HB.out⟩
  ·rw [if_neg c4] at H; exact absurd H (by simp)
 ·rw [if_neg c2] at H; have c2b0 : decide (a0 < 0) = false := decide_eq_false c2; clear c2
  by_cases c6 : a0 < 10
  ·rw [if_pos c6] at H; have c6b0 : decide (a0 < 10) = true := decide_eq_true c6; clear c6; obtain ⟨y424, hy424⟩ : ∃ y_ : List Int, y_ = (([(wrap64 (48 + a0)) % 256] : List Int)) := ⟨_, rfl⟩
   replace H : (some (strOfNums y424)) = some r := by first | (rw [hy424]; with_reducible exact H) | (have H2_ := (Option.bind_some _ _).symm.trans H; rw [hy424]; with_reducible exact H2_) | (have H2_ := (Option.bind_some _ _).symm.trans H; with_reducible exact H2_) | with_reducible exact H | (rw [hy424]; exact H) | exact H
   have Ny424 := Aside0.mk hy424; clear hy424; obtain rfl := Option.some.inj H
   go_enter Tryd.func22, Tryd.ntmps22
   go_wp2_with (first | ((with_reducible refine gate_dst (N := 14) rfl ?_); refine Kd.R_lit (Kd.int .u8) _ 5 ?hg (N := 14) ?hd (xs := ([(wrap64 (48 + a0)) % 256] : List Int)) (inner := [.int .u8 ((wrap64 (48 + a0)) % 256)]) (ok := fun _ => True) (okp := fun _ => True) ?hr ?hp (fun _ hk => hk) trivial (Below.refl _ _) (Nat.le_refl _) (by simp) ?_; (case hd => rfl); (case hg => rfl); (case hr => first | (go_simp; done) | (go_simp; rfl)); (case hp => exact (Reps.one (show Kd.M (Kd.int .u8) _ _ _ ((wrap64 (48 + a0)) % 256) [.int .u8 ((wrap64 (48 + a0)) % 256)] from rfl) (Reps.none _ _))); intro v425 w7 ho8 hb hg_ hnew_; clear hg_ hnew_; (first | rw [← Ny424.out] at ho8 | (simp only [Int.reduceToNat] at ho8; rw [← Ny424.out] at ho8)); have HO426 := Aside0.mk (Kd.R_lower ho8 (below_size (be HB.out))); replace HB := Aside0.mk (below_step (be HB.out) hb); clear hb ho8; have hcv9 := own_string (P := Tryd.prog) Tryd.underlying64 Tryd.underlying5 Tryd.underlying9 (Kd.own_of_R HO426.out)))
   go_ret
   exact ⟨by first | rfl | (simp [errW_none, errW_some] <;> rfl) | (simp [*, errW_none, errW_some] <;> rfl), be HB.out⟩
  ·rw [if_neg c6] at H; have c6b0 : decide (a0 < 10) = false := decide_eq_false c6; clear c6; replace H := Option.bind_eq_some_iff.mp H; obtain ⟨t427, A100, H⟩ := H; replace H : ((garmentref34_number.f k (Int.tmod a0 10)).bind fun t428 => (if t427.size + t428.size ≤ 9223372036854775807 then (some (t427 ++ t428)) else (none))) = some r := H; have A10 := Aside0.mk A100; clear A100; replace H := Option.bind_eq_some_iff.mp H; obtain ⟨t428, A110, H⟩ := H; replace H : (if t427.size + t428.size ≤ 9223372036854775807 then (some (t427 ++ t428)) else (none)) = some r := H; have A11 := Aside0.mk A110; clear A110
   by_cases c12 : t427.size + t428.size ≤ 9223372036854775807
   ·rw [if_pos c12] at H; have c12b0 := eq_true c12; have c12b1 : decide (t427.size + t428.size ≤ 9223372036854775807) = true := decide_eq_true c12
    try have c12b2 : (9223372036854775807 < t427.size + t428.size) = False := eq_false (Nat.not_lt.2 c12)
    obtain rfl := Option.some.inj H
    go_enter Tryd.func22, Tryd.ntmps22
    go_wp2_with (first | ((with_reducible refine gate_callee (f := 22) rfl ?_); refine goesA (some 18) rfl rfl Tryd.func22 (by kernel_rfl) rfl #[.int .i64 (wrap64 (Int.tdiv a0 10))] rfl ?_; (with_reducible refine (ih k (by omega) (wrap64 (Int.tdiv a0 10)) t427 _ A10.out).mono ?_); rintro e w13 ⟨rfl, hb⟩; refine ⟨_, rfl, ?_⟩; replace HB := Aside0.mk (below_step (be HB.out) hb); (try clear hb)) | ((with_reducible refine gate_callee (f := 22) rfl ?_); refine goesA (some 21) rfl rfl Tryd.func22 (by kernel_rfl) rfl #[.int .i64 (Int.tmod a0 10)] rfl ?_; (with_reducible refine (ih k (by omega) (Int.tmod a0 10) t428 _ A11.out).mono ?_); rintro e w14 ⟨rfl, hb⟩; refine ⟨_, rfl, ?_⟩; replace HB := Aside0.mk (below_step (be HB.out) hb); (try clear hb)))
    go_ret
    exact ⟨by first | rfl | (simp [errW_none, errW_some] <;> rfl) | (simp [*, errW_none, errW_some] <;> rfl), be HB.out⟩
   ·rw [if_neg c12] at H; exact absurd H (by simp)

end Go.Proofs.YtghnjnegcdbgnaaDoor.P
namespace Go.Proofs.YtghnjnegcdbgnaaDoor.P
open Go.RowKit Go.Proofs.YtghnjnegcdbgnaaDoorW.PrintWords Go.Proofs.YtghnjnegcdbgnaaDoorW.PrintLast Go.Proofs.YtghnjnegcdbgnaaDoorW.PrintMore Go.Proofs.YtghnjnegcdbgnaaDoorW.PrintAuto
attribute [local go_sem] max2_int min2_int max_two min_two max_three min_three max_four min_four   -- for this text's walks alone
set_option linter.unusedVariables false
set_option linter.unusedSimpArgs false

mutual
def garmentref34_Print.j0 : Nat → Bool → Int → Int → Int → Int → List Int → List (S46) → Option (ByteArray × Int)
 | 0, _, _, _, _, _, _, _ => none
 | k + 1, x17, x430000, x430001, x430002, x430003, x430004, x430005 => if x17 = true then (some ((⟨#[]⟩ : ByteArray), 5)) else ((garmentref34_inRange.f k x430000 x430001 x430002 x430003 x430004 x430005).bind fun t430 => (if t430 = true then ((garmentref34_number.f k x430000).bind fun t431 => (if 7 + t431.size ≤ 9223372036854775807 then (if 7 + t431.size + 1 ≤ 9223372036854775807 then ((garmentref34_number.f k x430001).bind fun t432 => (if 7 + t431.size + 1 + t432.size ≤ 9223372036854775807 then (if 7 + t431.size + 1 + t432.size + 1 ≤ 9223372036854775807 then ((garmentref34_number.f k x430002).bind fun t433 => (if 7 + t431.size + 1 + t432.size + 1 + t433.size ≤ 9223372036854775807 then (if 7 + t431.size + 1 + t432.size + 1 + t433.size + 1 ≤ 9223372036854775807 then ((garmentref34_number.f k x430003).bind fun t434 => (if 7 + t431.size + 1 + t432.size + 1 + t433.size + 1 + t434.size ≤ 9223372036854775807 then (if 7 + t431.size + 1 + t432.size + 1 + t433.size + 1 + t434.size + 6 ≤ 9223372036854775807 then (garmentref34_Print.l0 k (((((((((⟨#[109, 97, 114, 107, 101, 114, 32]⟩ : ByteArray) ++ t431) ++ (⟨#[32]⟩ : ByteArray)) ++ t432) ++ (⟨#[32]⟩ : ByteArray)) ++ t433) ++ (⟨#[32]⟩ : ByteArray)) ++ t434) ++ (⟨#[10, 115, 105, 122, 101, 115]⟩ : ByteArray)) 0 x430000 x430001 x430002 x430003 x430004 x430005) else (none)) else (none))) else (none)) else (none))) else (none)) else (none))) else (none)) else (none))) else (some ((⟨#[]⟩ : ByteArray), 3))))
def garmentref34_Print.l0 : Nat → ByteArray → Int → Int → Int → Int → Int → List Int → List (S46) → Option (ByteArray × Int)
 | 0, _, _, _, _, _, _, _, _ => none
 | k + 1, x4, x5, x430000, x430001, x430002, x430003, x430004, x430005 => if x5 < (x430004.length : Int) then (if x4.size + 1 ≤ 9223372036854775807 then (if 0 ≤ x5 then ((garmentref34_number.f k (rd x430004 x5)).bind fun t436 => (if x4.size + 1 + t436.size ≤ 9223372036854775807 then (garmentref34_Print.l0 k ((x4 ++ (⟨#[32]⟩ : ByteArray)) ++ t436) (wrap64 (x5 + 1)) x430000 x430001 x430002 x430003 x430004 x430005) else (none))) else (none)) else (none)) else (if x4.size + 1 ≤ 9223372036854775807 then (garmentref34_Print.l1 k (x4 ++ (⟨#[10]⟩ : ByteArray)) 0 x430000 x430001 x430002 x430003 x430004 x430005) else (none))
def garmentref34_Print.l1 : Nat → ByteArray → Int → Int → Int → Int → Int → List Int → List (S46) → Option (ByteArray × Int)
 | 0, _, _, _, _, _, _, _, _ => none
 | k + 1, x4, x6, x430000, x430001, x430002, x430003, x430004, x430005 => if x6 < (x430005.length : Int) then (if 0 ≤ x6 then (if x4.size + 6 ≤ 9223372036854775807 then ((garmentref34_number.f k ((rd_T46 x430005 x6).f0)).bind fun t439 => (if x4.size + 6 + t439.size ≤ 9223372036854775807 then (if x4.size + 6 + t439.size + 1 ≤ 9223372036854775807 then ((garmentref34_number.f k ((rd_T46 x430005 x6).f1)).bind fun t440 => (if x4.size + 6 + t439.size + 1 + t440.size ≤ 9223372036854775807 then (if x4.size + 6 + t439.size + 1 + t440.size + 1 ≤ 9223372036854775807 then ((garmentref34_number.f k ((rd_T46 x430005 x6).f2)).bind fun t441 => (if x4.size + 6 + t439.size + 1 + t440.size + 1 + t441.size ≤ 9223372036854775807 then (if (rd_T46 x430005 x6).f3.f0 = true then (if x4.size + 6 + t439.size + 1 + t440.size + 1 + t441.size + 5 ≤ 9223372036854775807 then (garmentref34_Print.j3 k (((((((x4 ++ (⟨#[112, 108, 97, 99, 101, 32]⟩ : ByteArray)) ++ t439) ++ (⟨#[32]⟩ : ByteArray)) ++ t440) ++ (⟨#[32]⟩ : ByteArray)) ++ t441) ++ (⟨#[32, 102, 108, 105, 112]⟩ : ByteArray)) x6 x430000 x430001 x430002 x430003 x430004 x430005 ((rd_T46 x430005 x6).f0) ((rd_T46 x430005 x6).f1) ((rd_T46 x430005 x6).f2) ((rd_T46 x430005 x6).f3.f0) ((rd_T46 x430005 x6).f3.f1) ((rd_T46 x430005 x6).f4.f0) ((rd_T46 x430005 x6).f4.f1)) else (none)) else (garmentref34_Print.j3 k ((((((x4 ++ (⟨#[112, 108, 97, 99, 101, 32]⟩ : ByteArray)) ++ t439) ++ (⟨#[32]⟩ : ByteArray)) ++ t440) ++ (⟨#[32]⟩ : ByteArray)) ++ t441) x6 x430000 x430001 x430002 x430003 x430004 x430005 ((rd_T46 x430005 x6).f0) ((rd_T46 x430005 x6).f1) ((rd_T46 x430005 x6).f2) ((rd_T46 x430005 x6).f3.f0) ((rd_T46 x430005 x6).f3.f1) ((rd_T46 x430005 x6).f4.f0) ((rd_T46 x430005 x6).f4.f1))) else (none))) else (none)) else (none))) else (none)) else (none))) else (none)) else (none)) else (some (x4, 0))
def garmentref34_Print.j3 : Nat → ByteArray → Int → Int → Int → Int → Int → List Int → List (S46) → Int → Int → Int → Bool → Int → Int → Int → Option (ByteArray × Int)
 | 0, _, _, _, _, _, _, _, _, _, _, _, _, _, _, _ => none
 | k + 1, x4, x6, x430000, x430001, x430002, x430003, x430004, x430005, x439000, x439001, x439002, x439003, x439004, x439005, x439006 => if x4.size + 1 ≤ 9223372036854775807 then ((garmentref34_number.f k x439004).bind fun t442 => (if x4.size + 1 + t442.size ≤ 9223372036854775807 then (if x4.size + 1 + t442.size + 1 ≤ 9223372036854775807 then ((garmentref34_number.f k x439005).bind fun t443 => (if x4.size + 1 + t442.size + 1 + t443.size ≤ 9223372036854775807 then (if x4.size + 1 + t442.size + 1 + t443.size + 1 ≤ 9223372036854775807 then ((garmentref34_number.f k x439006).bind fun t444 => (if x4.size + 1 + t442.size + 1 + t443.size + 1 + t444.size ≤ 9223372036854775807 then (if x4.size + 1 + t442.size + 1 + t443.size + 1 + t444.size + 1 ≤ 9223372036854775807 then (garmentref34_Print.l1 k (((((((x4 ++ (⟨#[32]⟩ : ByteArray)) ++ t442) ++ (⟨#[32]⟩ : ByteArray)) ++ t443) ++ (⟨#[32]⟩ : ByteArray)) ++ t444) ++ (⟨#[10]⟩ : ByteArray)) (wrap64 (x6 + 1)) x430000 x430001 x430002 x430003 x430004 x430005) else (none)) else (none))) else (none)) else (none))) else (none)) else (none))) else (none)
end
def garmentref34_Print.f (k : Nat) (a0_0 : Int) (a0_1 : Int) (a0_2 : Int) (a0_3 : Int) (l0_4 : List Int) (l0_5 : List (S46)) : Option (ByteArray × Int) := if (l0_4.length : Int) > 6 then (garmentref34_Print.j0 k true a0_0 a0_1 a0_2 a0_3 l0_4 l0_5) else (garmentref34_Print.j0 k (decide ((l0_5.length : Int) > 60)) a0_0 a0_1 a0_2 a0_3 l0_4 l0_5)
theorem garmentref34_Print.mono_l : ∀ k, (∀ y0 y1 y2 y3 y4 y5 y6, LeO (garmentref34_Print.j0 k y0 y1 y2 y3 y4 y5 y6) (garmentref34_Print.j0 (k + 1) y0 y1 y2 y3 y4 y5 y6)) ∧ (∀ y0 y1 y2 y3 y4 y5 y6 y7, LeO (garmentref34_Print.l0 k y0 y1 y2 y3 y4 y5 y6 y7) (garmentref34_Print.l0 (k + 1) y0 y1 y2 y3 y4 y5 y6 y7)) ∧ (∀ y0 y1 y2 y3 y4 y5 y6 y7, LeO (garmentref34_Print.l1 k y0 y1 y2 y3 y4 y5 y6 y7) (garmentref34_Print.l1 (k + 1) y0 y1 y2 y3 y4 y5 y6 y7)) ∧ (∀ y0 y1 y2 y3 y4 y5 y6 y7 y8 y9 y10 y11 y12 y13 y14, LeO (garmentref34_Print.j3 k y0 y1 y2 y3 y4 y5 y6 y7 y8 y9 y10 y11 y12 y13 y14) (garmentref34_Print.j3 (k + 1) y0 y1 y2 y3 y4 y5 y6 y7 y8 y9 y10 y11 y12 y13 y14))
 | 0 => ⟨fun _ _ _ _ _ _ _ r h => by simp [garmentref34_Print.j0] at h, fun _ _ _ _ _ _ _ _ r h => by simp [garmentref34_Print.l0] at h, fun _ _ _ _ _ _ _ _ r h => by simp [garmentref34_Print.l1] at h, fun _ _ _ _ _ _ _ _ _ _ _ _ _ _ _ r h => by simp [garmentref34_Print.j3] at h⟩
 | k + 1 => by
  obtain ⟨ih0, ih1, ih2, ih3⟩ := garmentref34_Print.mono_l k
  refine ⟨?_, ?_, ?_, ?_⟩
  ·intro y0 y1 y2 y3 y4 y5 y6
   unfold garmentref34_Print.j0
   repeat' first
   | (with_reducible exact ih0 _ _ _ _ _ _ _)
   | (with_reducible exact ih1 _ _ _ _ _ _ _ _)
   | (with_reducible exact ih2 _ _ _ _ _ _ _ _)
   | (with_reducible exact ih3 _ _ _ _ _ _ _ _ _ _ _ _ _ _ _)
   | (with_reducible exact garmentref34_inRange.mono _ _ _ _ _ _ _)
   | (with_reducible exact garmentref34_number.mono _ _)
   | (with_reducible exact LeO.refl _)
   | (with_reducible exact LeO.none _)
   | (with_reducible refine LeO.ite ?_ ?_)
   | (with_reducible refine LeO.bind ?_ (fun _ => ?_))
   | exact ih0 _ _ _ _ _ _ _
   | exact ih1 _ _ _ _ _ _ _ _
   | exact ih2 _ _ _ _ _ _ _ _
   | exact ih3 _ _ _ _ _ _ _ _ _ _ _ _ _ _ _
   | exact garmentref34_inRange.mono _ _ _ _ _ _ _
   | exact garmentref34_number.mono _ _
   | exact LeO.none _
   | refine LeO.ite ?_ ?_
   | refine LeO.bind ?_ (fun _ => ?_)
  ·intro y0 y1 y2 y3 y4 y5 y6 y7
   unfold garmentref34_Print.l0
   repeat' first
   | (with_reducible exact ih0 _ _ _ _ _ _ _)
   | (with_reducible exact ih1 _ _ _ _ _ _ _ _)
   | (with_reducible exact ih2 _ _ _ _ _ _ _ _)
   | (with_reducible exact ih3 _ _ _ _ _ _ _ _ _ _ _ _ _ _ _)
   | (with_reducible exact garmentref34_inRange.mono _ _ _ _ _ _ _)
   | (with_reducible exact garmentref34_number.mono _ _)
   | (with_reducible exact LeO.refl _)
   | (with_reducible exact LeO.none _)
   | (with_reducible refine LeO.ite ?_ ?_)
   | (with_reducible refine LeO.bind ?_ (fun _ => ?_))
   | exact ih0 _ _ _ _ _ _ _
   | exact ih1 _ _ _ _ _ _ _ _
   | exact ih2 _ _ _ _ _ _ _ _
   | exact ih3 _ _ _ _ _ _ _ _ _ _ _ _ _ _ _
   | exact garmentref34_inRange.mono _ _ _ _ _ _ _
   | exact garmentref34_number.mono _ _
   | exact LeO.none _
   | refine LeO.ite ?_ ?_
   | refine LeO.bind ?_ (fun _ => ?_)
  ·intro y0 y1 y2 y3 y4 y5 y6 y7
   unfold garmentref34_Print.l1
   repeat' first
   | (with_reducible exact ih0 _ _ _ _ _ _ _)
   | (with_reducible exact ih1 _ _ _ _ _ _ _ _)
   | (with_reducible exact ih2 _ _ _ _ _ _ _ _)
   | (with_reducible exact ih3 _ _ _ _ _ _ _ _ _ _ _ _ _ _ _)
   | (with_reducible exact garmentref34_inRange.mono _ _ _ _ _ _ _)
   | (with_reducible exact garmentref34_number.mono _ _)
   | (with_reducible exact LeO.refl _)
   | (with_reducible exact LeO.none _)
   | (with_reducible refine LeO.ite ?_ ?_)
   | (with_reducible refine LeO.bind ?_ (fun _ => ?_))
   | exact ih0 _ _ _ _ _ _ _
   | exact ih1 _ _ _ _ _ _ _ _
   | exact ih2 _ _ _ _ _ _ _ _
   | exact ih3 _ _ _ _ _ _ _ _ _ _ _ _ _ _ _
   | exact garmentref34_inRange.mono _ _ _ _ _ _ _
   | exact garmentref34_number.mono _ _
   | exact LeO.none _
   | refine LeO.ite ?_ ?_
   | refine LeO.bind ?_ (fun _ => ?_)
  ·intro y0 y1 y2 y3 y4 y5 y6 y7 y8 y9 y10 y11 y12 y13 y14
   unfold garmentref34_Print.j3
   repeat' first
   | (with_reducible exact ih0 _ _ _ _ _ _ _)
   | (with_reducible exact ih1 _ _ _ _ _ _ _ _)
   | (with_reducible exact ih2 _ _ _ _ _ _ _ _)
   | (with_reducible exact ih3 _ _ _ _ _ _ _ _ _ _ _ _ _ _ _)
   | (with_reducible exact garmentref34_inRange.mono _ _ _ _ _ _ _)
   | (with_reducible exact garmentref34_number.mono _ _)
   | (with_reducible exact LeO.refl _)
   | (with_reducible exact LeO.none _)
   | (with_reducible refine LeO.ite ?_ ?_)
   | (with_reducible refine LeO.bind ?_ (fun _ => ?_))
   | exact ih0 _ _ _ _ _ _ _
   | exact ih1 _ _ _ _ _ _ _ _
   | exact ih2 _ _ _ _ _ _ _ _
   | exact ih3 _ _ _ _ _ _ _ _ _ _ _ _ _ _ _
   | exact garmentref34_inRange.mono _ _ _ _ _ _ _
   | exact garmentref34_number.mono _ _
   | exact LeO.none _
   | refine LeO.ite ?_ ?_
   | refine LeO.bind ?_ (fun _ => ?_)
theorem garmentref34_Print.mono : ∀ a0 a1 a2 a3 a4 a5 k, LeO (garmentref34_Print.f k a0 a1 a2 a3 a4 a5) (garmentref34_Print.f (k + 1) a0 a1 a2 a3 a4 a5) := by
 intro a0 a1 a2 a3 a4 a5 k; obtain ⟨ih0, ih1, ih2, ih3⟩ := garmentref34_Print.mono_l k
 unfold garmentref34_Print.f
 repeat' first
  | (with_reducible exact ih0 _ _ _ _ _ _ _)
  | (with_reducible exact ih1 _ _ _ _ _ _ _ _)
  | (with_reducible exact ih2 _ _ _ _ _ _ _ _)
  | (with_reducible exact ih3 _ _ _ _ _ _ _ _ _ _ _ _ _ _ _)
  | (with_reducible exact garmentref34_inRange.mono _ _ _ _ _ _ _)
  | (with_reducible exact garmentref34_number.mono _ _)
  | (with_reducible exact LeO.refl _)
  | (with_reducible exact LeO.none _)
  | (with_reducible refine LeO.ite ?_ ?_)
  | (with_reducible refine LeO.bind ?_ (fun _ => ?_))
  | exact ih0 _ _ _ _ _ _ _
  | exact ih1 _ _ _ _ _ _ _ _
  | exact ih2 _ _ _ _ _ _ _ _
  | exact ih3 _ _ _ _ _ _ _ _ _ _ _ _ _ _ _
  | exact garmentref34_inRange.mono _ _ _ _ _ _ _
  | exact garmentref34_number.mono _ _
  | exact LeO.none _
  | refine LeO.ite ?_ ?_
  | refine LeO.bind ?_ (fun _ => ?_)
def garmentref34_Print.T5 : Bool × List (List Nat × List Nat) := (true, [([], []), ([0], [0]), ([1], [1]), ([2], [2]), ([3], [3]), ([], []), ([5], [5]), ([6, 2], [6]), ([4, 7], [4, 7]), ([8], [8]), ([], []), ([10], [10]), ([11], [11]), ([12, 7], [12]), ([9, 13], [9, 13]), ([14], [14]), ([], []), ([16], [16]), ([17], [17]), ([18, 13], [18]), ([15, 19], [15, 19]), ([20], [20]), ([21, 19, 0, 1, 2, 3, 4, 5, 6, 7, 8, 9, 10, 11, 12, 13, 14, 15, 16, 17, 18, 19, 20, 21], [21])])
def garmentref34_Print.B5 : List Nat := [0, 1, 3, 7, 15, 0, 32, 103, 255, 511, 0, 1024, 3072, 7399, 16383, 32767, 0, 65536, 196608, 474343, 1048575, 2097151, 4194303]
theorem garmentref34_Print.tab5 : rtab .any (opsOf Tryd.f11 5) = garmentref34_Print.T5 := by kernel_rfl
theorem garmentref34_Print.bits5 : waitsOk garmentref34_Print.T5.2 garmentref34_Print.B5 = true := by kernel_rfl
def garmentref34_Print.T15 : Bool × List (List Nat × List Nat) := (true, [([], []), ([0], [0]), ([], []), ([2], [2]), ([3], [3]), ([1, 4], [1, 4]), ([5], [5]), ([], []), ([7], [7]), ([8, 4], [8]), ([6, 9], [6, 9]), ([10], [10]), ([], []), ([12], [12]), ([13, 9], [13]), ([11, 14], [11, 14]), ([15, 14, 0, 1, 2, 3, 4, 5, 6, 7, 8, 9, 10, 11, 12, 13, 14, 15], [0, 15])])
def garmentref34_Print.B15 : List Nat := [0, 1, 0, 4, 12, 31, 63, 0, 128, 412, 1023, 2047, 0, 4096, 13212, 32767, 65535]
theorem garmentref34_Print.tab15 : rtab .any (opsOf Tryd.f11 15) = garmentref34_Print.T15 := by kernel_rfl
theorem garmentref34_Print.bits15 : waitsOk garmentref34_Print.T15.2 garmentref34_Print.B15 = true := by kernel_rfl
def garmentref34_Print.T18 : Bool × List (List Nat × List Nat) := (true, [([], []), ([0], [0]), ([], []), ([2], [2]), ([3], [3]), ([4], [4]), ([1, 5], [1, 5]), ([6], [6]), ([], []), ([8], [8]), ([9], [9]), ([10, 5], [10]), ([7, 11], [7, 11]), ([12], [12]), ([], []), ([14], [14]), ([15], [15]), ([16, 11], [16]), ([13, 17], [13, 17]), ([18], [18]), ([19, 17, 0, 1, 2, 3, 4, 5, 6, 7, 8, 9, 10, 11, 12, 13, 14, 15, 16, 17, 18, 19], [0, 19])])
def garmentref34_Print.B18 : List Nat := [0, 1, 0, 4, 12, 28, 63, 127, 0, 256, 768, 1852, 4095, 8191, 0, 16384, 49152, 118588, 262143, 524287, 1048575]
theorem garmentref34_Print.tab18 : rtab .any (opsOf Tryd.f11 18) = garmentref34_Print.T18 := by kernel_rfl
theorem garmentref34_Print.bits18 : waitsOk garmentref34_Print.T18.2 garmentref34_Print.B18 = true := by kernel_rfl
set_option maxHeartbeats 8000000 in
set_option maxRecDepth 100000 in
theorem garmentref34_Print.calls (k : Nat) (a0_0 : Int) (a0_1 : Int) (a0_2 : Int) (a0_3 : Int) (A0_4 : Option Addr) (c0_4 : Nat) (l0_4 : List Int) (A0_5 : Option Addr) (c0_5 : Nat) (l0_5 : List (S46)) (r1 : ByteArray) (r2 : Int) (w : World) (hr0_4 : Kd.C (Kd.int .i64) w A0_4 l0_4.length l0_4) (hc0_4 : l0_4.length ≤ c0_4) (hr0_5 : Kd.C k46 w A0_5 l0_5.length l0_5) (hc0_5 : l0_5.length ≤ c0_5) (h : garmentref34_Print.f k a0_0 a0_1 a0_2 a0_3 l0_4 l0_5 = some (r1, r2)) :
    Calls Tryd.prog 11 #[.agg #[.int .i64 a0_0, .int .i64 a0_1, .int .i64 a0_2, .int .i64 a0_3, .slice A0_4 l0_4.length c0_4, .slice A0_5 l0_5.length c0_5]] w fun e w' => e = .returned (.tuple #[.string r1, .int .i64 r2]) ∧ Below w.heap.size w w' := by
  have hu27 := Tryd.underlying27; have hu46 := Tryd.underlying46; have HR0_4 := Aside0.mk hr0_4; have HC0_4 := Aside0.mk hc0_4; clear hr0_4 hc0_4; have HR0_5 := Aside0.mk hr0_5; have HC0_5 := Aside0.mk hc0_5; clear hr0_5 hc0_5; have HB := Aside0.mk (Below.refl w.heap.size w); have H : (if (l0_4.length : Int) > 6 then (garmentref34_Print.j0 k true a0_0 a0_1 a0_2 a0_3 l0_4 l0_5) else (garmentref34_Print.j0 k (decide ((l0_5.length : Int) > 60)) a0_0 a0_1 a0_2 a0_3 l0_4 l0_5)) = some (r1, r2) := h; clear h; have HC2 := Aside0.mk H; clear H
  go_enter Tryd.func11, Tryd.ntmps11
  go_upto_region 1 with (first | ((with_reducible refine gate_dst (N := 1) rfl ?_); (try (refine gate_guard (by rfl) ?_; dsimp only)); refine box_event ?hg (N := 1) ?hd (cs := #[.int .i64 a0_0, .int .i64 a0_1, .int .i64 a0_2, .int .i64 a0_3, .slice A0_4 l0_4.length c0_4, .slice A0_5 l0_5.length c0_5]) (t := 27) ?hr ?_; (case hd => rfl); (case hg => rfl); (case hr => first | (go_simp; done) | (go_simp; rfl)); intro gb429 hg w3 hbox hb; have BK429 := Aside0.mk (hbox); have GW429 := Aside0.mk ((by rw [hg]; exact (below_size (be HB.out)) : w.heap.size ≤ gb429)); have GE429 := Aside0.mk ((by rw [hg]; exact (below_size (be HB.out)) : w.heap.size ≤ gb429)); replace HB := Aside0.mk (below_step (be HB.out) hb); clear hb hbox hg))
  (try simp only [Act.put, List.setIfInBounds_toArray, List.set_cons_zero, List.set_cons_succ])
  go_cut [17] (fun v17 wc => ∃ (kq : Nat) (x17_1 : Bool), v17 = .bool x17_1 ∧ Aside0 (garmentref34_Print.j0 kq x17_1 a0_0 a0_1 a0_2 a0_3 l0_4 l0_5 = some (r1, r2)) ∧ Aside0 (kq ≤ k) ∧ Aside0 (wc.heap[gb429]? = some (.cells #[.int .i64 a0_0, .int .i64 a0_1, .int .i64 a0_2, .int .i64 a0_3, (.slice A0_4 l0_4.length c0_4), (.slice A0_5 l0_5.length c0_5)] 27 (0, 0))) ∧ Aside0 (Below w.heap.size w wc))
  case first =>
    have H := HC2.out; clear HC2
    by_cases c4 : (l0_4.length : Int) > 6
    · rw [if_pos c4] at H; have c4b0 : decide (6 < (l0_4.length : Int)) = true := decide_eq_true c4; have c4b1 : decide (6 < l0_4.length) = true := decide_eq_true (by omega); clear c4
      (first | rw [c4b0] | (simp only [i64_w, i32_w]; rw [c4b0]) | skip)
      have H' := Aside0.mk H; clear H; have hcz5_0 := bc BK429.out 0 (.int .i64 a0_0) rfl; have hcz5_1 := bc BK429.out 1 (.int .i64 a0_1) rfl; have hcz5_2 := bc BK429.out 2 (.int .i64 a0_2) rfl; have hcz5_3 := bc BK429.out 3 (.int .i64 a0_3) rfl; have hcz5_4 := bc BK429.out 4 (.slice A0_4 l0_4.length c0_4) rfl; have hcz5_5 := bc BK429.out 5 (.slice A0_5 l0_5.length c0_5) rfl; have hfz5_0 := blk_frozen BK429.out 0; have hfz5_1 := blk_frozen BK429.out 1; have hfz5_2 := blk_frozen BK429.out 2; have hfz5_3 := blk_frozen BK429.out 3; have hfz5_4 := blk_frozen BK429.out 4; have hfz5_5 := blk_frozen BK429.out 5
      go_wp2
      go_meet
      case rel => exact ⟨_, (true), (by first | rfl | (simp; done) | (simp [*]; done)), (by first | exact H' | (rw [← Nbq60.out]; exact H')), ⟨by first | omega | exact Nat.le_refl _⟩, ⟨bu (BK429.out)⟩, ⟨be HB.out⟩⟩
    · rw [if_neg c4] at H; have c4b0 : decide (6 < (l0_4.length : Int)) = false := decide_eq_false c4; have c4b1 : decide (6 < l0_4.length) = false := decide_eq_false (by omega); clear c4
      (first | rw [c4b0] | (simp only [i64_w, i32_w]; rw [c4b0]) | skip)
      have H' := Aside0.mk H; clear H; have hcz6_0 := bc BK429.out 0 (.int .i64 a0_0) rfl; have hcz6_1 := bc BK429.out 1 (.int .i64 a0_1) rfl; have hcz6_2 := bc BK429.out 2 (.int .i64 a0_2) rfl; have hcz6_3 := bc BK429.out 3 (.int .i64 a0_3) rfl; have hcz6_4 := bc BK429.out 4 (.slice A0_4 l0_4.length c0_4) rfl; have hcz6_5 := bc BK429.out 5 (.slice A0_5 l0_5.length c0_5) rfl; have hfz6_0 := blk_frozen BK429.out 0; have hfz6_1 := blk_frozen BK429.out 1; have hfz6_2 := blk_frozen BK429.out 2; have hfz6_3 := blk_frozen BK429.out 3; have hfz6_4 := blk_frozen BK429.out 4; have hfz6_5 := blk_frozen BK429.out 5
      go_wp2
      go_meet
      case rel => exact ⟨_, (decide ((l0_5.length : Int) > 60)), (by first | rfl | (simp; done) | (simp [*]; done)), (by first | exact H' | (rw [← Nbq60.out]; exact H')), ⟨by first | omega | exact Nat.le_refl _⟩, ⟨bu (BK429.out)⟩, ⟨be HB.out⟩⟩
  case rest =>
    clear HC2
    try clear c1
    try clear p2
    try clear c4
    try clear c4b0
    try clear c4b1
    try clear hcz5_0 hcz5_1 hcz5_2 hcz5_3 hcz5_4 hcz5_5
    try clear hcz6_0 hcz6_1 hcz6_2 hcz6_3 hcz6_4 hcz6_5
    try clear hfz5_0 hfz5_1 hfz5_2 hfz5_3 hfz5_4 hfz5_5
    try clear hfz6_0 hfz6_1 hfz6_2 hfz6_3 hfz6_4 hfz6_5
    obtain ⟨kq, x17_1, rfl, HA, HJ1, BK429, HB⟩ := hcut
    cases kq with
    | zero => exact absurd HA.out (by simp [garmentref34_Print.j0])
    | succ kj1 =>
      have H := HA.out; clear HA; simp only [garmentref34_Print.j0] at H
      by_cases c7 : x17_1 = true
      · subst c7
        have H1 : (some ((⟨#[]⟩ : ByteArray), 5)) = some (r1, r2) := by rw [if_pos rfl] at H; exact H
        clear H; have H := H1; clear H1; simp only [Option.some.injEq, Prod.mk.injEq] at H; obtain ⟨rfl, rfl⟩ := H
        go_wp2
        go_ret2
        exact ⟨by first | rfl | (simp [errW_none, errW_some] <;> rfl) | (simp [*, errW_none, errW_some] <;> rfl), be HB.out⟩
      · replace c7 := Bool.eq_false_iff.mpr c7; subst c7
        have H1 : ((garmentref34_inRange.f kj1 a0_0 a0_1 a0_2 a0_3 l0_4 l0_5).bind fun t430 => (if t430 = true then ((garmentref34_number.f kj1 a0_0).bind fun t431 => (if 7 + t431.size ≤ 9223372036854775807 then (if 7 + t431.size + 1 ≤ 9223372036854775807 then ((garmentref34_number.f kj1 a0_1).bind fun t432 => (if 7 + t431.size + 1 + t432.size ≤ 9223372036854775807 then (if 7 + t431.size + 1 + t432.size + 1 ≤ 9223372036854775807 then ((garmentref34_number.f kj1 a0_2).bind fun t433 => (if 7 + t431.size + 1 + t432.size + 1 + t433.size ≤ 9223372036854775807 then (if 7 + t431.size + 1 + t432.size + 1 + t433.size + 1 ≤ 9223372036854775807 then ((garmentref34_number.f kj1 a0_3).bind fun t434 => (if 7 + t431.size + 1 + t432.size + 1 + t433.size + 1 + t434.size ≤ 9223372036854775807 then (if 7 + t431.size + 1 + t432.size + 1 + t433.size + 1 + t434.size + 6 ≤ 9223372036854775807 then (garmentref34_Print.l0 kj1 (((((((((⟨#[109, 97, 114, 107, 101, 114, 32]⟩ : ByteArray) ++ t431) ++ (⟨#[32]⟩ : ByteArray)) ++ t432) ++ (⟨#[32]⟩ : ByteArray)) ++ t433) ++ (⟨#[32]⟩ : ByteArray)) ++ t434) ++ (⟨#[10, 115, 105, 122, 101, 115]⟩ : ByteArray)) 0 a0_0 a0_1 a0_2 a0_3 l0_4 l0_5) else (none)) else (none))) else (none)) else (none))) else (none)) else (none))) else (none)) else (none))) else (some ((⟨#[]⟩ : ByteArray), 3)))) = some (r1, r2) := by rw [if_neg (show ¬ (false = true) by decide)] at H; exact H
        clear H; have H := H1; clear H1; replace H := Option.bind_eq_some_iff.mp H; obtain ⟨t430, A80, H⟩ := H; replace H : (if t430 = true then ((garmentref34_number.f kj1 a0_0).bind fun t431 => (if 7 + t431.size ≤ 9223372036854775807 then (if 7 + t431.size + 1 ≤ 9223372036854775807 then ((garmentref34_number.f kj1 a0_1).bind fun t432 => (if 7 + t431.size + 1 + t432.size ≤ 9223372036854775807 then (if 7 + t431.size + 1 + t432.size + 1 ≤ 9223372036854775807 then ((garmentref34_number.f kj1 a0_2).bind fun t433 => (if 7 + t431.size + 1 + t432.size + 1 + t433.size ≤ 9223372036854775807 then (if 7 + t431.size + 1 + t432.size + 1 + t433.size + 1 ≤ 9223372036854775807 then ((garmentref34_number.f kj1 a0_3).bind fun t434 => (if 7 + t431.size + 1 + t432.size + 1 + t433.size + 1 + t434.size ≤ 9223372036854775807 then (if 7 + t431.size + 1 + t432.size + 1 + t433.size + 1 + t434.size + 6 ≤ 9223372036854775807 then (garmentref34_Print.l0 kj1 (((((((((⟨#[109, 97, 114, 107, 101, 114, 32]⟩ : ByteArray) ++ t431) ++ (⟨#[32]⟩ : ByteArray)) ++ t432) ++ (⟨#[32]⟩ : ByteArray)) ++ t433) ++ (⟨#[32]⟩ : ByteArray)) ++ t434) ++ (⟨#[10, 115, 105, 122, 101, 115]⟩ : ByteArray)) 0 a0_0 a0_1 a0_2 a0_3 l0_4 l0_5) else (none)) else (none))) else (none)) else (none))) else (none)) else (none))) else (none)) else (none))) else (some ((⟨#[]⟩ : ByteArray), 3))) = some (r1, r2) := H; have A8 := Aside0.mk A80; clear A80
        by_cases c9 : t430 = true
        · subst c9
          have H1 : ((garmentref34_number.f kj1 a0_0).bind fun t431 => (if 7 + t431.size ≤ 9223372036854775807 then (if 7 + t431.size + 1 ≤ 9223372036854775807 then ((garmentref34_number.f kj1 a0_1).bind fun t432 => (if 7 + t431.size + 1 + t432.size ≤ 9223372036854775807 then (if 7 + t431.size + 1 + t432.size + 1 ≤ 9223372036854775807 then ((garmentref34_number.f kj1 a0_2).bind fun t433 => (if 7 + t431.size + 1 + t432.size + 1 + t433.size ≤ 9223372036854775807 then (if 7 + t431.size + 1 + t432.size + 1 + t433.size + 1 ≤ 9223372036854775807 then ((garmentref34_number.f kj1 a0_3).bind fun t434 => (if 7 + t431.size + 1 + t432.size + 1 + t433.size + 1 + t434.size ≤ 9223372036854775807 then (if 7 + t431.size + 1 + t432.size + 1 + t433.size + 1 + t434.size + 6 ≤ 9223372036854775807 then (garmentref34_Print.l0 kj1 (((((((((⟨#[109, 97, 114, 107, 101, 114, 32]⟩ : ByteArray) ++ t431) ++ (⟨#[32]⟩ : ByteArray)) ++ t432) ++ (⟨#[32]⟩ : ByteArray)) ++ t433) ++ (⟨#[32]⟩ : ByteArray)) ++ t434) ++ (⟨#[10, 115, 105, 122, 101, 115]⟩ : ByteArray)) 0 a0_0 a0_1 a0_2 a0_3 l0_4 l0_5) else (none)) else (none))) else (none)) else (none))) else (none)) else (none))) else (none)) else (none))) = some (r1, r2) := by rw [if_pos rfl] at H; exact H
          clear H; have H := H1; clear H1; replace H := Option.bind_eq_some_iff.mp H; obtain ⟨t431, A100, H⟩ := H; replace H : (if 7 + t431.size ≤ 9223372036854775807 then (if 7 + t431.size + 1 ≤ 9223372036854775807 then ((garmentref34_number.f kj1 a0_1).bind fun t432 => (if 7 + t431.size + 1 + t432.size ≤ 9223372036854775807 then (if 7 + t431.size + 1 + t432.size + 1 ≤ 9223372036854775807 then ((garmentref34_number.f kj1 a0_2).bind fun t433 => (if 7 + t431.size + 1 + t432.size + 1 + t433.size ≤ 9223372036854775807 then (if 7 + t431.size + 1 + t432.size + 1 + t433.size + 1 ≤ 9223372036854775807 then ((garmentref34_number.f kj1 a0_3).bind fun t434 => (if 7 + t431.size + 1 + t432.size + 1 + t433.size + 1 + t434.size ≤ 9223372036854775807 then (if 7 + t431.size + 1 + t432.size + 1 + t433.size + 1 + t434.size + 6 ≤ 9223372036854775807 then (garmentref34_Print.l0 kj1 (((((((((⟨#[109, 97, 114, 107, 101, 114, 32]⟩ : ByteArray) ++ t431) ++ (⟨#[32]⟩ : ByteArray)) ++ t432) ++ (⟨#[32]⟩ : ByteArray)) ++ t433) ++ (⟨#[32]⟩ : ByteArray)) ++ t434) ++ (⟨#[10, 115, 105, 122, 101, 115]⟩ : ByteArray)) 0 a0_0 a0_1 a0_2 a0_3 l0_4 l0_5) else (none)) else (none))) else (none)) else (none))) else (none)) else (none))) else (none)) else (none)) = some (r1, r2) := H; have A10 := Aside0.mk A100; clear A100
          by_cases c11 : 7 + t431.size ≤ 9223372036854775807
          · rw [if_pos c11] at H; have c11b0 := eq_true c11; have c11b1 : decide (7 + t431.size ≤ 9223372036854775807) = true := decide_eq_true c11
            try have c11b2 : (9223372036854775807 < 7 + t431.size) = False := eq_false (Nat.not_lt.2 c11)
            by_cases c12 : 7 + t431.size + 1 ≤ 9223372036854775807
            · rw [if_pos c12] at H; have c12b0 := eq_true c12; have c12b1 : decide (7 + t431.size + 1 ≤ 9223372036854775807) = true := decide_eq_true c12
              try have c12b2 : (9223372036854775807 < 7 + t431.size + 1) = False := eq_false (Nat.not_lt.2 c12)
              replace H := Option.bind_eq_some_iff.mp H; obtain ⟨t432, A130, H⟩ := H; replace H : (if 7 + t431.size + 1 + t432.size ≤ 9223372036854775807 then (if 7 + t431.size + 1 + t432.size + 1 ≤ 9223372036854775807 then ((garmentref34_number.f kj1 a0_2).bind fun t433 => (if 7 + t431.size + 1 + t432.size + 1 + t433.size ≤ 9223372036854775807 then (if 7 + t431.size + 1 + t432.size + 1 + t433.size + 1 ≤ 9223372036854775807 then ((garmentref34_number.f kj1 a0_3).bind fun t434 => (if 7 + t431.size + 1 + t432.size + 1 + t433.size + 1 + t434.size ≤ 9223372036854775807 then (if 7 + t431.size + 1 + t432.size + 1 + t433.size + 1 + t434.size + 6 ≤ 9223372036854775807 then (garmentref34_Print.l0 kj1 (((((((((⟨#[109, 97, 114, 107, 101, 114, 32]⟩ : ByteArray) ++ t431) ++ (⟨#[32]⟩ : ByteArray)) ++ t432) ++ (⟨#[32]⟩ : ByteArray)) ++ t433) ++ (⟨#[32]⟩ : ByteArray)) ++ t434) ++ (⟨#[10, 115, 105, 122, 101, 115]⟩ : ByteArray)) 0 a0_0 a0_1 a0_2 a0_3 l0_4 l0_5) else (none)) else (none))) else (none)) else (none))) else (none)) else (none)) = some (r1, r2) := H; have A13 := Aside0.mk A130; clear A130
              by_cases c14 : 7 + t431.size + 1 + t432.size ≤ 9223372036854775807
              · rw [if_pos c14] at H; have c14b0 := eq_true c14; have c14b1 : decide (7 + t431.size + 1 + t432.size ≤ 9223372036854775807) = true := decide_eq_true c14
                try have c14b2 : (9223372036854775807 < 7 + t431.size + 1 + t432.size) = False := eq_false (Nat.not_lt.2 c14)
                by_cases c15 : 7 + t431.size + 1 + t432.size + 1 ≤ 9223372036854775807
                · rw [if_pos c15] at H; have c15b0 := eq_true c15; have c15b1 : decide (7 + t431.size + 1 + t432.size + 1 ≤ 9223372036854775807) = true := decide_eq_true c15
                  try have c15b2 : (9223372036854775807 < 7 + t431.size + 1 + t432.size + 1) = False := eq_false (Nat.not_lt.2 c15)
                  replace H := Option.bind_eq_some_iff.mp H; obtain ⟨t433, A160, H⟩ := H; replace H : (if 7 + t431.size + 1 + t432.size + 1 + t433.size ≤ 9223372036854775807 then (if 7 + t431.size + 1 + t432.size + 1 + t433.size + 1 ≤ 9223372036854775807 then ((garmentref34_number.f kj1 a0_3).bind fun t434 => (if 7 + t431.size + 1 + t432.size + 1 + t433.size + 1 + t434.size ≤ 9223372036854775807 then (if 7 + t431.size + 1 + t432.size + 1 + t433.size + 1 + t434.size + 6 ≤ 9223372036854775807 then (garmentref34_Print.l0 kj1 (((((((((⟨#[109, 97, 114, 107, 101, 114, 32]⟩ : ByteArray) ++ t431) ++ (⟨#[32]⟩ : ByteArray)) ++ t432) ++ (⟨#[32]⟩ : ByteArray)) ++ t433) ++ (⟨#[32]⟩ : ByteArray)) ++ t434) ++ (⟨#[10, 115, 105, 122, 101, 115]⟩ : ByteArray)) 0 a0_0 a0_1 a0_2 a0_3 l0_4 l0_5) else (none)) else (none))) else (none)) else (none)) = some (r1, r2) := H; have A16 := Aside0.mk A160; clear A160
                  by_cases c17 : 7 + t431.size + 1 + t432.size + 1 + t433.size ≤ 9223372036854775807
                  · rw [if_pos c17] at H; have c17b0 := eq_true c17; have c17b1 : decide (7 + t431.size + 1 + t432.size + 1 + t433.size ≤ 9223372036854775807) = true := decide_eq_true c17
                    try have c17b2 : (9223372036854775807 < 7 + t431.size + 1 + t432.size + 1 + t433.size) = False := eq_false (Nat.not_lt.2 c17)
                    by_cases c18 : 7 + t431.size + 1 + t432.size + 1 + t433.size + 1 ≤ 9223372036854775807
                    · rw [if_pos c18] at H; have c18b0 := eq_true c18; have c18b1 : decide (7 + t431.size + 1 + t432.size + 1 + t433.size + 1 ≤ 9223372036854775807) = true := decide_eq_true c18
                      try have c18b2 : (9223372036854775807 < 7 + t431.size + 1 + t432.size + 1 + t433.size + 1) = False := eq_false (Nat.not_lt.2 c18)
                      replace H := Option.bind_eq_some_iff.mp H; obtain ⟨t434, A190, H⟩ := H; replace H : (if 7 + t431.size + 1 + t432.size + 1 + t433.size + 1 + t434.size ≤ 9223372036854775807 then (if 7 + t431.size + 1 + t432.size + 1 + t433.size + 1 + t434.size + 6 ≤ 9223372036854775807 then (garmentref34_Print.l0 kj1 (((((((((⟨#[109, 97, 114, 107, 101, 114, 32]⟩ : ByteArray) ++ t431) ++ (⟨#[32]⟩ : ByteArray)) ++ t432) ++ (⟨#[32]⟩ : ByteArray)) ++ t433) ++ (⟨#[32]⟩ : ByteArray)) ++ t434) ++ (⟨#[10, 115, 105, 122, 101, 115]⟩ : ByteArray)) 0 a0_0 a0_1 a0_2 a0_3 l0_4 l0_5) else (none)) else (none)) = some (r1, r2) := H; have A19 := Aside0.mk A190; clear A190
                      by_cases c20 : 7 + t431.size + 1 + t432.size + 1 + t433.size + 1 + t434.size ≤ 9223372036854775807
                      · rw [if_pos c20] at H; have c20b0 := eq_true c20; have c20b1 : decide (7 + t431.size + 1 + t432.size + 1 + t433.size + 1 + t434.size ≤ 9223372036854775807) = true := decide_eq_true c20
                        try have c20b2 : (9223372036854775807 < 7 + t431.size + 1 + t432.size + 1 + t433.size + 1 + t434.size) = False := eq_false (Nat.not_lt.2 c20)
                        by_cases c21 : 7 + t431.size + 1 + t432.size + 1 + t433.size + 1 + t434.size + 6 ≤ 9223372036854775807
                        · rw [if_pos c21] at H; have c21b0 := eq_true c21; have c21b1 : decide (7 + t431.size + 1 + t432.size + 1 + t433.size + 1 + t434.size + 6 ≤ 9223372036854775807) = true := decide_eq_true c21
                          try have c21b2 : (9223372036854775807 < 7 + t431.size + 1 + t432.size + 1 + t433.size + 1 + t434.size + 6) = False := eq_false (Nat.not_lt.2 c21)
                          have H' := Aside0.mk H; clear H; have hcz22_0 := bc BK429.out 0 (.int .i64 a0_0) rfl; have hcz22_1 := bc BK429.out 1 (.int .i64 a0_1) rfl; have hcz22_2 := bc BK429.out 2 (.int .i64 a0_2) rfl; have hcz22_3 := bc BK429.out 3 (.int .i64 a0_3) rfl; have hcz22_4 := bc BK429.out 4 (.slice A0_4 l0_4.length c0_4) rfl; have hcz22_5 := bc BK429.out 5 (.slice A0_5 l0_5.length c0_5) rfl; have hfz22_0 := blk_frozen BK429.out 0; have hfz22_1 := blk_frozen BK429.out 1; have hfz22_2 := blk_frozen BK429.out 2; have hfz22_3 := blk_frozen BK429.out 3; have hfz22_4 := blk_frozen BK429.out 4; have hfz22_5 := blk_frozen BK429.out 5
                          try go_wp2_with (first | ((with_reducible refine gate_callee (f := 21) rfl ?_); refine goesA (some 19) rfl rfl Tryd.func21 (by kernel_rfl) rfl #[.agg #[.int .i64 a0_0, .int .i64 a0_1, .int .i64 a0_2, .int .i64 a0_3, .slice A0_4 l0_4.length c0_4, .slice A0_5 l0_5.length c0_5]] rfl ?_; (with_reducible refine (garmentref34_inRange.calls kj1 a0_0 a0_1 a0_2 a0_3 _ _ l0_4 _ _ l0_5 true _ ?side1 ?side2 ?side3 ?side4 A8.out).mono ?_); (case side1 => exact cu (Kd.C_below HR0_4.out HB.out)); (case side2 => exact HC0_4.out); (case side3 => exact cu (Kd.C_below HR0_5.out HB.out)); (case side4 => exact HC0_5.out); rintro e w23 ⟨rfl, hb⟩; refine ⟨_, rfl, ?_⟩; replace BK429 := Aside0.mk (blk_below (bu BK429.out) hb); replace HB := Aside0.mk (below_step (be HB.out) hb); (try clear hb)))
                          replace BK429 := Aside0.mk (blk_drew BK429.out); replace HB := Aside0.mk (below_drew1 HB.out)
                          refine start_ (n := 23) (S := fun w' => w'.cell? ⟨gb429, 0, none⟩ = some (.int .i64 a0_0) ∧ w'.cell? ⟨gb429, 1, none⟩ = some (.int .i64 a0_1) ∧ w'.cell? ⟨gb429, 2, none⟩ = some (.int .i64 a0_2) ∧ w'.cell? ⟨gb429, 3, none⟩ = some (.int .i64 a0_3) ∧ w'.cell? ⟨gb429, 4, none⟩ = some (.slice A0_4 l0_4.length c0_4) ∧ w'.cell? ⟨gb429, 5, none⟩ = some (.slice A0_5 l0_5.length c0_5)) (ds := []) #[false, false, false, false, false, false, false, false, false, false, false, false, false, false, false, false, false, false, false, false, false, false, false] (by kernel_rfl) rfl rfl ⟨(blk_cell BK429.out 0).trans rfl, (blk_cell BK429.out 1).trans rfl, (blk_cell BK429.out 2).trans rfl, (blk_cell BK429.out 3).trans rfl, (blk_cell BK429.out 4).trans rfl, (blk_cell BK429.out 5).trans rfl⟩ (fun hHeld => ?_); refine with_tabW garmentref34_Print.tab5 garmentref34_Print.bits5 (fun HT_ HW_ => ?_)
                          generalize w23.drew = w24 at BK429 HB hHeld ⊢; refine pureA (i := 0) (N := some 21) #[true, false, false, false, false, false, false, false, false, false, false, false, false, false, false, false, false, false, false, false, false, false, false] rfl rfl HT_.out (by kernel_rfl) ?_; refine pureA (i := 5) (N := some 26) #[true, false, false, false, false, true, false, false, false, false, false, false, false, false, false, false, false, false, false, false, false, false, false] rfl rfl HT_.out (by kernel_rfl) ?_; refine pureA (i := 10) (N := some 31) #[true, false, false, false, false, true, false, false, false, false, true, false, false, false, false, false, false, false, false, false, false, false, false] rfl rfl HT_.out (by kernel_rfl) ?_; refine pureA (i := 11) (N := some 32) #[true, false, false, false, false, true, false, false, false, false, true, true, false, false, false, false, false, false, false, false, false, false, false] rfl rfl HT_.out (by kernel_rfl) ?_; refine pureA (i := 16) (N := some 37) #[true, false, false, false, false, true, false, false, false, false, true, true, false, false, false, false, true, false, false, false, false, false, false] rfl rfl HT_.out (by kernel_rfl) ?_; refine pureA (i := 17) (N := some 38) #[true, false, false, false, false, true, false, false, false, false, true, true, false, false, false, false, true, true, false, false, false, false, false] rfl rfl HT_.out (by kernel_rfl) ?_; refine take_ (i := 1) (N := some 22) (v := ?_) (a' := ?_) #[true, true, false, false, false, true, false, false, false, false, true, true, false, false, false, false, true, true, false, false, false, false, false] rfl rfl (take_ofW HT_.out HW_.out (by kernel_rfl)) (fun _ _ _ h => h) (Or.inl ⟨by rfl, ?_⟩) hHeld ?_ ?_
                          rotate_left
                          · rintro w' ⟨s0, s1, s2, s3, s4, s5⟩
                            go_simp
                            with_reducible rfl
                          rotate_left
                          · simp only [Act.put, List.setIfInBounds_toArray, List.set_cons_zero, List.set_cons_succ, i64_w, i32_w]
                            rfl
                          refine take_ (i := 6) (N := some 27) (v := ?_) (a' := ?_) #[true, true, false, false, false, true, true, false, false, false, true, true, false, false, false, false, true, true, false, false, false, false, false] rfl rfl (take_ofW HT_.out HW_.out (by kernel_rfl)) (fun _ _ _ h => h) (Or.inl ⟨by rfl, ?_⟩) hHeld ?_ ?_
                          rotate_left
                          · rintro w' ⟨s0, s1, s2, s3, s4, s5⟩
                            go_simp
                            with_reducible rfl
                          rotate_left
                          · simp only [Act.put, List.setIfInBounds_toArray, List.set_cons_zero, List.set_cons_succ, i64_w, i32_w]
                            rfl
                          refine take_ (i := 12) (N := some 33) (v := ?_) (a' := ?_) #[true, true, false, false, false, true, true, false, false, false, true, true, true, false, false, false, true, true, false, false, false, false, false] rfl rfl (take_ofW HT_.out HW_.out (by kernel_rfl)) (fun _ _ _ h => h) (Or.inl ⟨by rfl, ?_⟩) hHeld ?_ ?_
                          rotate_left
                          · rintro w' ⟨s0, s1, s2, s3, s4, s5⟩
                            go_simp
                            with_reducible rfl
                          rotate_left
                          · simp only [Act.put, List.setIfInBounds_toArray, List.set_cons_zero, List.set_cons_succ, i64_w, i32_w]
                            rfl
                          refine take_ (i := 18) (N := some 39) (v := ?_) (a' := ?_) #[true, true, false, false, false, true, true, false, false, false, true, true, true, false, false, false, true, true, true, false, false, false, false] rfl rfl (take_ofW HT_.out HW_.out (by kernel_rfl)) (fun _ _ _ h => h) (Or.inl ⟨by rfl, ?_⟩) hHeld ?_ ?_
                          rotate_left
                          · rintro w' ⟨s0, s1, s2, s3, s4, s5⟩
                            go_simp
                            with_reducible rfl
                          rotate_left
                          · simp only [Act.put, List.setIfInBounds_toArray, List.set_cons_zero, List.set_cons_succ, i64_w, i32_w]
                            rfl
                          refine one_ (i := 2) (N := some 23) #[true, true, true, false, false, true, true, false, false, false, true, true, true, false, false, false, true, true, true, false, false, false, false] rfl rfl (one_of HT_.out (by kernel_rfl)) (by decide) (fun K hK => ?_); refine goes_ Tryd.func22 (by kernel_rfl) rfl #[.int .i64 a0_0] (by rfl) rfl rfl (by (try simp only [List.map_toArray, List.map_cons, List.map_nil]); first | done | rfl | (simp only [List.length_drop, List.length_take]; rfl)) ?_
                          with_reducible refine (garmentref34_number.calls kj1 a0_0 t431 _ A10.out).mono ?_
                          rintro e w25 ⟨rfl, hb⟩
                          refine ⟨_, rfl, ?_⟩; replace BK429 := Aside0.mk (blk_below (bu BK429.out) hb); replace HB := Aside0.mk (below_step (be HB.out) hb)
                          (try clear hb)
                          (try clear hb2)
                          (try clear hk)
                          (try clear hi)
                          refine hK.out _ _ ⟨(blk_cell BK429.out 0).trans rfl, (blk_cell BK429.out 1).trans rfl, (blk_cell BK429.out 2).trans rfl, (blk_cell BK429.out 3).trans rfl, (blk_cell BK429.out 4).trans rfl, (blk_cell BK429.out 5).trans rfl⟩ (fun hHeld => ?_); clear hK K; refine norm_ (a' := ?_) ?_ ?_
                          rotate_left
                          · show Act.put _ (some 23) _ = _
                            simp only [Act.put, List.setIfInBounds_toArray, List.set_cons_zero, List.set_cons_succ, i64_w, i32_w]
                            rfl
                          refine pureA (i := 3) (N := some 24) #[true, true, true, true, false, true, true, false, false, false, true, true, true, false, false, false, true, true, true, false, false, false, false] rfl rfl HT_.out (by kernel_rfl) ?_; refine pureA (i := 4) (N := some 25) #[true, true, true, true, true, true, true, false, false, false, true, true, true, false, false, false, true, true, true, false, false, false, false] rfl rfl HT_.out (by kernel_rfl) ?_; refine one_ (i := 7) (N := some 28) #[true, true, true, true, true, true, true, true, false, false, true, true, true, false, false, false, true, true, true, false, false, false, false] rfl rfl (one_of HT_.out (by kernel_rfl)) (by decide) (fun K hK => ?_); refine goes_ Tryd.func22 (by kernel_rfl) rfl #[.int .i64 a0_1] (by rfl) rfl rfl (by (try simp only [List.map_toArray, List.map_cons, List.map_nil]); first | done | rfl | (simp only [List.length_drop, List.length_take]; rfl)) ?_
                          with_reducible refine (garmentref34_number.calls kj1 a0_1 t432 _ A13.out).mono ?_
                          rintro e w26 ⟨rfl, hb⟩
                          refine ⟨_, rfl, ?_⟩; replace BK429 := Aside0.mk (blk_below (bu BK429.out) hb); replace HB := Aside0.mk (below_step (be HB.out) hb)
                          (try clear hb)
                          (try clear hb2)
                          (try clear hk)
                          (try clear hi)
                          refine hK.out _ _ ⟨(blk_cell BK429.out 0).trans rfl, (blk_cell BK429.out 1).trans rfl, (blk_cell BK429.out 2).trans rfl, (blk_cell BK429.out 3).trans rfl, (blk_cell BK429.out 4).trans rfl, (blk_cell BK429.out 5).trans rfl⟩ (fun hHeld => ?_); clear hK K; refine norm_ (a' := ?_) ?_ ?_
                          rotate_left
                          · show Act.put _ (some 28) _ = _
                            simp only [Act.put, List.setIfInBounds_toArray, List.set_cons_zero, List.set_cons_succ, i64_w, i32_w]
                            rfl
                          refine pureA (i := 8) (N := some 29) #[true, true, true, true, true, true, true, true, true, false, true, true, true, false, false, false, true, true, true, false, false, false, false] rfl rfl HT_.out (by kernel_rfl) ?_; refine pureA (i := 9) (N := some 30) #[true, true, true, true, true, true, true, true, true, true, true, true, true, false, false, false, true, true, true, false, false, false, false] rfl rfl HT_.out (by kernel_rfl) ?_; refine one_ (i := 13) (N := some 34) #[true, true, true, true, true, true, true, true, true, true, true, true, true, true, false, false, true, true, true, false, false, false, false] rfl rfl (one_of HT_.out (by kernel_rfl)) (by decide) (fun K hK => ?_); refine goes_ Tryd.func22 (by kernel_rfl) rfl #[.int .i64 a0_2] (by rfl) rfl rfl (by (try simp only [List.map_toArray, List.map_cons, List.map_nil]); first | done | rfl | (simp only [List.length_drop, List.length_take]; rfl)) ?_
                          with_reducible refine (garmentref34_number.calls kj1 a0_2 t433 _ A16.out).mono ?_
                          rintro e w27 ⟨rfl, hb⟩
                          refine ⟨_, rfl, ?_⟩; replace BK429 := Aside0.mk (blk_below (bu BK429.out) hb); replace HB := Aside0.mk (below_step (be HB.out) hb)
                          (try clear hb)
                          (try clear hb2)
                          (try clear hk)
                          (try clear hi)
                          refine hK.out _ _ ⟨(blk_cell BK429.out 0).trans rfl, (blk_cell BK429.out 1).trans rfl, (blk_cell BK429.out 2).trans rfl, (blk_cell BK429.out 3).trans rfl, (blk_cell BK429.out 4).trans rfl, (blk_cell BK429.out 5).trans rfl⟩ (fun hHeld => ?_); clear hK K; refine norm_ (a' := ?_) ?_ ?_
                          rotate_left
                          · show Act.put _ (some 34) _ = _
                            simp only [Act.put, List.setIfInBounds_toArray, List.set_cons_zero, List.set_cons_succ, i64_w, i32_w]
                            rfl
                          refine pureA (i := 14) (N := some 35) #[true, true, true, true, true, true, true, true, true, true, true, true, true, true, true, false, true, true, true, false, false, false, false] rfl rfl HT_.out (by kernel_rfl) ?_; refine pureA (i := 15) (N := some 36) #[true, true, true, true, true, true, true, true, true, true, true, true, true, true, true, true, true, true, true, false, false, false, false] rfl rfl HT_.out (by kernel_rfl) ?_; refine one_ (i := 19) (N := some 40) #[true, true, true, true, true, true, true, true, true, true, true, true, true, true, true, true, true, true, true, true, false, false, false] rfl rfl (one_of HT_.out (by kernel_rfl)) (by decide) (fun K hK => ?_); refine goes_ Tryd.func22 (by kernel_rfl) rfl #[.int .i64 a0_3] (by rfl) rfl rfl (by (try simp only [List.map_toArray, List.map_cons, List.map_nil]); first | done | rfl | (simp only [List.length_drop, List.length_take]; rfl)) ?_
                          with_reducible refine (garmentref34_number.calls kj1 a0_3 t434 _ A19.out).mono ?_
                          rintro e w28 ⟨rfl, hb⟩
                          refine ⟨_, rfl, ?_⟩; replace BK429 := Aside0.mk (blk_below (bu BK429.out) hb); replace HB := Aside0.mk (below_step (be HB.out) hb)
                          (try clear hb)
                          (try clear hb2)
                          (try clear hk)
                          (try clear hi)
                          refine hK.out _ _ ⟨(blk_cell BK429.out 0).trans rfl, (blk_cell BK429.out 1).trans rfl, (blk_cell BK429.out 2).trans rfl, (blk_cell BK429.out 3).trans rfl, (blk_cell BK429.out 4).trans rfl, (blk_cell BK429.out 5).trans rfl⟩ (fun hHeld => ?_); clear hK K; refine norm_ (a' := ?_) ?_ ?_
                          rotate_left
                          · show Act.put _ (some 40) _ = _
                            simp only [Act.put, List.setIfInBounds_toArray, List.set_cons_zero, List.set_cons_succ, i64_w, i32_w]
                            rfl
                          refine pureA (i := 20) (N := some 41) #[true, true, true, true, true, true, true, true, true, true, true, true, true, true, true, true, true, true, true, true, true, false, false] rfl rfl HT_.out (by kernel_rfl) ?_; refine pureA (i := 21) (N := some 42) #[true, true, true, true, true, true, true, true, true, true, true, true, true, true, true, true, true, true, true, true, true, true, false] rfl rfl HT_.out (by kernel_rfl) ?_; refine pureA (i := 22) (N := some 4) #[true, true, true, true, true, true, true, true, true, true, true, true, true, true, true, true, true, true, true, true, true, true, true] rfl rfl HT_.out (by kernel_rfl) ?_; refine done_ (done_of HT_.out (by kernel_rfl)) ?_
                          try go_wp2
                          go_loopg [4, 5] kj1 (fun kq v4 v5 w' => ∃ (x4_2 : ByteArray) (x5_2 : Int), v4 = .string x4_2 ∧ v5 = .int .i64 x5_2 ∧ Aside0 (garmentref34_Print.l0 kq x4_2 x5_2 a0_0 a0_1 a0_2 a0_3 l0_4 l0_5 = some (r1, r2)) ∧ Aside0 (kq ≤ kj1) ∧ Aside0 (w'.heap[gb429]? = some (.cells #[.int .i64 a0_0, .int .i64 a0_1, .int .i64 a0_2, .int .i64 a0_3, (.slice A0_4 l0_4.length c0_4), (.slice A0_5 l0_5.length c0_5)] 27 (0, 0))) ∧ Aside0 (Below w.heap.size w w'))
                          case atStart => exact ⟨(((((((((⟨#[109, 97, 114, 107, 101, 114, 32]⟩ : ByteArray) ++ t431) ++ (⟨#[32]⟩ : ByteArray)) ++ t432) ++ (⟨#[32]⟩ : ByteArray)) ++ t433) ++ (⟨#[32]⟩ : ByteArray)) ++ t434) ++ (⟨#[10, 115, 105, 122, 101, 115]⟩ : ByteArray)), (0), (by first | rfl | (simp; done) | (simp [*]; done)), (by first | rfl | (simp; done) | (simp [*]; done)), H', ⟨Nat.le_refl _⟩, ⟨bu (BK429.out)⟩, ⟨be HB.out⟩⟩
                          case round =>
                            clear H'
                            try clear c1
                            try clear c2
                            try clear p2
                            try clear c4
                            try clear c4b0
                            try clear c4b1
                            try clear c7
                            try clear c9
                            try clear c11
                            try clear c11b0
                            try clear c11b1
                            try clear c11b2
                            try clear c12
                            try clear c12b0
                            try clear c12b1
                            try clear c12b2
                            try clear c14
                            try clear c14b0
                            try clear c14b1
                            try clear c14b2
                            try clear c15
                            try clear c15b0
                            try clear c15b1
                            try clear c15b2
                            try clear c17
                            try clear c17b0
                            try clear c17b1
                            try clear c17b2
                            try clear c18
                            try clear c18b0
                            try clear c18b1
                            try clear c18b2
                            try clear c20
                            try clear c20b0
                            try clear c20b1
                            try clear c20b2
                            try clear c21
                            try clear c21b0
                            try clear c21b1
                            try clear c21b2
                            try clear c22
                            try clear hcz22_0 hcz22_1 hcz22_2 hcz22_3 hcz22_4 hcz22_5
                            try clear hcz5_0 hcz5_1 hcz5_2 hcz5_3 hcz5_4 hcz5_5
                            try clear hcz6_0 hcz6_1 hcz6_2 hcz6_3 hcz6_4 hcz6_5
                            try clear hfz22_0 hfz22_1 hfz22_2 hfz22_3 hfz22_4 hfz22_5
                            try clear hfz5_0 hfz5_1 hfz5_2 hfz5_3 hfz5_4 hfz5_5
                            try clear hfz6_0 hfz6_1 hfz6_2 hfz6_3 hfz6_4 hfz6_5
                            try clear p2
                            obtain ⟨x4_2, x5_2, rfl, rfl, HA, HK2, BK429, HB⟩ := hrel
                            cases gk with
                            | zero => exact absurd HA.out (by simp [garmentref34_Print.l0])
                            | succ k2 =>
                              have H := HA.out; clear HA; simp only [garmentref34_Print.l0] at H
                              by_cases c29 : x5_2 < (l0_4.length : Int)
                              · rw [if_pos c29] at H; have c29b0 : decide (x5_2 < (l0_4.length : Int)) = true := decide_eq_true c29; clear c29
                                by_cases c30 : x4_2.size + 1 ≤ 9223372036854775807
                                · rw [if_pos c30] at H; have c30b0 := eq_true c30; have c30b1 : decide (x4_2.size + 1 ≤ 9223372036854775807) = true := decide_eq_true c30
                                  try have c30b2 : (9223372036854775807 < x4_2.size + 1) = False := eq_false (Nat.not_lt.2 c30)
                                  by_cases c31 : 0 ≤ x5_2
                                  · rw [if_pos c31] at H; have c31b0 : decide (0 ≤ x5_2) = true := decide_eq_true c31; clear c31; replace H := Option.bind_eq_some_iff.mp H; obtain ⟨t436, A320, H⟩ := H; replace H : (if x4_2.size + 1 + t436.size ≤ 9223372036854775807 then (garmentref34_Print.l0 k2 ((x4_2 ++ (⟨#[32]⟩ : ByteArray)) ++ t436) (wrap64 (x5_2 + 1)) a0_0 a0_1 a0_2 a0_3 l0_4 l0_5) else (none)) = some (r1, r2) := H; have A32 := Aside0.mk A320; clear A320
                                    by_cases c33 : x4_2.size + 1 + t436.size ≤ 9223372036854775807
                                    · rw [if_pos c33] at H; have c33b0 := eq_true c33; have c33b1 : decide (x4_2.size + 1 + t436.size ≤ 9223372036854775807) = true := decide_eq_true c33
                                      try have c33b2 : (9223372036854775807 < x4_2.size + 1 + t436.size) = False := eq_false (Nat.not_lt.2 c33)
                                      have H' := Aside0.mk H; clear H; have hcz34_0 := bc BK429.out 0 (.int .i64 a0_0) rfl; have hcz34_1 := bc BK429.out 1 (.int .i64 a0_1) rfl; have hcz34_2 := bc BK429.out 2 (.int .i64 a0_2) rfl; have hcz34_3 := bc BK429.out 3 (.int .i64 a0_3) rfl; have hcz34_4 := bc BK429.out 4 (.slice A0_4 l0_4.length c0_4) rfl; have hcz34_5 := bc BK429.out 5 (.slice A0_5 l0_5.length c0_5) rfl; have hfz34_0 := blk_frozen BK429.out 0; have hfz34_1 := blk_frozen BK429.out 1; have hfz34_2 := blk_frozen BK429.out 2; have hfz34_3 := blk_frozen BK429.out 3; have hfz34_4 := blk_frozen BK429.out 4; have hfz34_5 := blk_frozen BK429.out 5; have p435 : 0 ≤ (x5_2 : Int) := oda; have q435 : x5_2 < (l0_4.length : Int) := oda; obtain ⟨ad435, e435, hx435_0⟩ := Kd.at_int HR0_4.out x5_2 p435 q435; cases e435; replace hx435_0 := (HB.out.cell (World.block_lt_of_cell? w _ hx435_0)).trans hx435_0; replace p435 := eq_true p435; replace q435 := eq_true q435
                                      go_wp2_with (first | ((with_reducible refine gate_callee (f := 22) rfl ?_); refine goesA (some 57) rfl rfl Tryd.func22 (by kernel_rfl) rfl #[.int .i64 (rd l0_4 x5_2)] rfl ?_; (with_reducible refine (garmentref34_number.calls k2 (rd l0_4 x5_2) t436 _ A32.out).mono ?_); rintro e w35 ⟨rfl, hb⟩; refine ⟨_, rfl, ?_⟩; replace BK429 := Aside0.mk (blk_below (bu BK429.out) hb); replace HB := Aside0.mk (below_step (be HB.out) hb); (try clear hb)))
                                      go_roundg k2
                                      case measure => have := HJ1.out; have := HK2.out; omega
                                      case rel => exact ⟨((x4_2 ++ (⟨#[32]⟩ : ByteArray)) ++ t436), (wrap64 (x5_2 + 1)), (by first | rfl | (simp; done) | (simp [*]; done)), (by first | rfl | (simp; done) | (simp [*]; done)), (by first | exact H' | (rw [← Nbq60.out]; exact H')), ⟨by have := HJ1.out; have := HK2.out; omega⟩, ⟨bu (BK429.out)⟩, ⟨be HB.out⟩⟩
                                    · rw [if_neg c33] at H; exact absurd H (by simp)
                                  · rw [if_neg c31] at H; exact absurd H (by simp)
                                · rw [if_neg c30] at H; exact absurd H (by simp)
                              · rw [if_neg c29] at H; have c29b0 : decide (x5_2 < (l0_4.length : Int)) = false := decide_eq_false c29; clear c29
                                by_cases c36 : x4_2.size + 1 ≤ 9223372036854775807
                                · rw [if_pos c36] at H; have c36b0 := eq_true c36; have c36b1 : decide (x4_2.size + 1 ≤ 9223372036854775807) = true := decide_eq_true c36
                                  try have c36b2 : (9223372036854775807 < x4_2.size + 1) = False := eq_false (Nat.not_lt.2 c36)
                                  have H' := Aside0.mk H; clear H; have hcz37_0 := bc BK429.out 0 (.int .i64 a0_0) rfl; have hcz37_1 := bc BK429.out 1 (.int .i64 a0_1) rfl; have hcz37_2 := bc BK429.out 2 (.int .i64 a0_2) rfl; have hcz37_3 := bc BK429.out 3 (.int .i64 a0_3) rfl; have hcz37_4 := bc BK429.out 4 (.slice A0_4 l0_4.length c0_4) rfl; have hcz37_5 := bc BK429.out 5 (.slice A0_5 l0_5.length c0_5) rfl; have hfz37_0 := blk_frozen BK429.out 0; have hfz37_1 := blk_frozen BK429.out 1; have hfz37_2 := blk_frozen BK429.out 2; have hfz37_3 := blk_frozen BK429.out 3; have hfz37_4 := blk_frozen BK429.out 4; have hfz37_5 := blk_frozen BK429.out 5
                                  go_wp2
                                  go_loopg [4, 6] k2 (fun kq v4 v6 w' => ∃ (x4_3 : ByteArray) (x6_3 : Int), v4 = .string x4_3 ∧ v6 = .int .i64 x6_3 ∧ Aside0 (garmentref34_Print.l1 kq x4_3 x6_3 a0_0 a0_1 a0_2 a0_3 l0_4 l0_5 = some (r1, r2)) ∧ Aside0 (kq ≤ k2) ∧ Aside0 (w'.heap[gb429]? = some (.cells #[.int .i64 a0_0, .int .i64 a0_1, .int .i64 a0_2, .int .i64 a0_3, (.slice A0_4 l0_4.length c0_4), (.slice A0_5 l0_5.length c0_5)] 27 (0, 0))) ∧ Aside0 (Below w.heap.size w w'))
                                  case atStart => exact ⟨(x4_2 ++ (⟨#[10]⟩ : ByteArray)), (0), (by first | rfl | (simp; done) | (simp [*]; done)), (by first | rfl | (simp; done) | (simp [*]; done)), H', ⟨Nat.le_refl _⟩, ⟨bu (BK429.out)⟩, ⟨be HB.out⟩⟩
                                  case round =>
                                    clear H'
                                    try clear c1
                                    try clear c2
                                    try clear p2
                                    try clear c3
                                    try clear c4
                                    try clear c4b0
                                    try clear c4b1
                                    try clear p4
                                    try clear q4
                                    try clear hx4
                                    try clear p6
                                    try clear c7
                                    try clear c9
                                    try clear c11
                                    try clear c11b0
                                    try clear c11b1
                                    try clear c11b2
                                    try clear c12
                                    try clear c12b0
                                    try clear c12b1
                                    try clear c12b2
                                    try clear c14
                                    try clear c14b0
                                    try clear c14b1
                                    try clear c14b2
                                    try clear c15
                                    try clear c15b0
                                    try clear c15b1
                                    try clear c15b2
                                    try clear c17
                                    try clear c17b0
                                    try clear c17b1
                                    try clear c17b2
                                    try clear c18
                                    try clear c18b0
                                    try clear c18b1
                                    try clear c18b2
                                    try clear c20
                                    try clear c20b0
                                    try clear c20b1
                                    try clear c20b2
                                    try clear c21
                                    try clear c21b0
                                    try clear c21b1
                                    try clear c21b2
                                    try clear c22
                                    try clear c29
                                    try clear c29b0
                                    try clear c30
                                    try clear c30b0
                                    try clear c30b1
                                    try clear c30b2
                                    try clear c31
                                    try clear c31b0
                                    try clear c33
                                    try clear c33b0
                                    try clear c33b1
                                    try clear c33b2
                                    try clear c36
                                    try clear c36b0
                                    try clear c36b1
                                    try clear c36b2
                                    try clear hcz22_0 hcz22_1 hcz22_2 hcz22_3 hcz22_4 hcz22_5
                                    try clear hcz34_0 hcz34_1 hcz34_2 hcz34_3 hcz34_4 hcz34_5
                                    try clear hcz37_0 hcz37_1 hcz37_2 hcz37_3 hcz37_4 hcz37_5
                                    try clear hcz5_0 hcz5_1 hcz5_2 hcz5_3 hcz5_4 hcz5_5
                                    try clear hcz6_0 hcz6_1 hcz6_2 hcz6_3 hcz6_4 hcz6_5
                                    try clear hfz22_0 hfz22_1 hfz22_2 hfz22_3 hfz22_4 hfz22_5
                                    try clear hfz34_0 hfz34_1 hfz34_2 hfz34_3 hfz34_4 hfz34_5
                                    try clear hfz37_0 hfz37_1 hfz37_2 hfz37_3 hfz37_4 hfz37_5
                                    try clear hfz5_0 hfz5_1 hfz5_2 hfz5_3 hfz5_4 hfz5_5
                                    try clear hfz6_0 hfz6_1 hfz6_2 hfz6_3 hfz6_4 hfz6_5
                                    try clear hx435_0
                                    try clear p2
                                    try clear p435
                                    try clear q435
                                    obtain ⟨x4_3, x6_3, rfl, rfl, HA, HK3, BK429, HB⟩ := hrel
                                    cases gk with
                                    | zero => exact absurd HA.out (by simp [garmentref34_Print.l1])
                                    | succ k3 =>
                                      have H := HA.out; clear HA; simp only [garmentref34_Print.l1] at H
                                      by_cases c38 : x6_3 < (l0_5.length : Int)
                                      · rw [if_pos c38] at H; have c38b0 : decide (x6_3 < (l0_5.length : Int)) = true := decide_eq_true c38; clear c38
                                        by_cases c39 : 0 ≤ x6_3
                                        · rw [if_pos c39] at H; have c39b0 : decide (0 ≤ x6_3) = true := decide_eq_true c39; clear c39
                                          by_cases c40 : x4_3.size + 6 ≤ 9223372036854775807
                                          · rw [if_pos c40] at H; have c40b0 := eq_true c40; have c40b1 : decide (x4_3.size + 6 ≤ 9223372036854775807) = true := decide_eq_true c40
                                            try have c40b2 : (9223372036854775807 < x4_3.size + 6) = False := eq_false (Nat.not_lt.2 c40)
                                            replace H := Option.bind_eq_some_iff.mp H; obtain ⟨t439, A410, H⟩ := H; replace H : (if x4_3.size + 6 + t439.size ≤ 9223372036854775807 then (if x4_3.size + 6 + t439.size + 1 ≤ 9223372036854775807 then ((garmentref34_number.f k3 ((rd_T46 l0_5 x6_3).f1)).bind fun t440 => (if x4_3.size + 6 + t439.size + 1 + t440.size ≤ 9223372036854775807 then (if x4_3.size + 6 + t439.size + 1 + t440.size + 1 ≤ 9223372036854775807 then ((garmentref34_number.f k3 ((rd_T46 l0_5 x6_3).f2)).bind fun t441 => (if x4_3.size + 6 + t439.size + 1 + t440.size + 1 + t441.size ≤ 9223372036854775807 then (if (rd_T46 l0_5 x6_3).f3.f0 = true then (if x4_3.size + 6 + t439.size + 1 + t440.size + 1 + t441.size + 5 ≤ 9223372036854775807 then (garmentref34_Print.j3 k3 (((((((x4_3 ++ (⟨#[112, 108, 97, 99, 101, 32]⟩ : ByteArray)) ++ t439) ++ (⟨#[32]⟩ : ByteArray)) ++ t440) ++ (⟨#[32]⟩ : ByteArray)) ++ t441) ++ (⟨#[32, 102, 108, 105, 112]⟩ : ByteArray)) x6_3 a0_0 a0_1 a0_2 a0_3 l0_4 l0_5 ((rd_T46 l0_5 x6_3).f0) ((rd_T46 l0_5 x6_3).f1) ((rd_T46 l0_5 x6_3).f2) ((rd_T46 l0_5 x6_3).f3.f0) ((rd_T46 l0_5 x6_3).f3.f1) ((rd_T46 l0_5 x6_3).f4.f0) ((rd_T46 l0_5 x6_3).f4.f1)) else (none)) else (garmentref34_Print.j3 k3 ((((((x4_3 ++ (⟨#[112, 108, 97, 99, 101, 32]⟩ : ByteArray)) ++ t439) ++ (⟨#[32]⟩ : ByteArray)) ++ t440) ++ (⟨#[32]⟩ : ByteArray)) ++ t441) x6_3 a0_0 a0_1 a0_2 a0_3 l0_4 l0_5 ((rd_T46 l0_5 x6_3).f0) ((rd_T46 l0_5 x6_3).f1) ((rd_T46 l0_5 x6_3).f2) ((rd_T46 l0_5 x6_3).f3.f0) ((rd_T46 l0_5 x6_3).f3.f1) ((rd_T46 l0_5 x6_3).f4.f0) ((rd_T46 l0_5 x6_3).f4.f1))) else (none))) else (none)) else (none))) else (none)) else (none)) = some (r1, r2) := H; have A41 := Aside0.mk A410; clear A410
                                            by_cases c42 : x4_3.size + 6 + t439.size ≤ 9223372036854775807
                                            · rw [if_pos c42] at H; have c42b0 := eq_true c42; have c42b1 : decide (x4_3.size + 6 + t439.size ≤ 9223372036854775807) = true := decide_eq_true c42
                                              try have c42b2 : (9223372036854775807 < x4_3.size + 6 + t439.size) = False := eq_false (Nat.not_lt.2 c42)
                                              by_cases c43 : x4_3.size + 6 + t439.size + 1 ≤ 9223372036854775807
                                              · rw [if_pos c43] at H; have c43b0 := eq_true c43; have c43b1 : decide (x4_3.size + 6 + t439.size + 1 ≤ 9223372036854775807) = true := decide_eq_true c43
                                                try have c43b2 : (9223372036854775807 < x4_3.size + 6 + t439.size + 1) = False := eq_false (Nat.not_lt.2 c43)
                                                replace H := Option.bind_eq_some_iff.mp H; obtain ⟨t440, A440, H⟩ := H; replace H : (if x4_3.size + 6 + t439.size + 1 + t440.size ≤ 9223372036854775807 then (if x4_3.size + 6 + t439.size + 1 + t440.size + 1 ≤ 9223372036854775807 then ((garmentref34_number.f k3 ((rd_T46 l0_5 x6_3).f2)).bind fun t441 => (if x4_3.size + 6 + t439.size + 1 + t440.size + 1 + t441.size ≤ 9223372036854775807 then (if (rd_T46 l0_5 x6_3).f3.f0 = true then (if x4_3.size + 6 + t439.size + 1 + t440.size + 1 + t441.size + 5 ≤ 9223372036854775807 then (garmentref34_Print.j3 k3 (((((((x4_3 ++ (⟨#[112, 108, 97, 99, 101, 32]⟩ : ByteArray)) ++ t439) ++ (⟨#[32]⟩ : ByteArray)) ++ t440) ++ (⟨#[32]⟩ : ByteArray)) ++ t441) ++ (⟨#[32, 102, 108, 105, 112]⟩ : ByteArray)) x6_3 a0_0 a0_1 a0_2 a0_3 l0_4 l0_5 ((rd_T46 l0_5 x6_3).f0) ((rd_T46 l0_5 x6_3).f1) ((rd_T46 l0_5 x6_3).f2) ((rd_T46 l0_5 x6_3).f3.f0) ((rd_T46 l0_5 x6_3).f3.f1) ((rd_T46 l0_5 x6_3).f4.f0) ((rd_T46 l0_5 x6_3).f4.f1)) else (none)) else (garmentref34_Print.j3 k3 ((((((x4_3 ++ (⟨#[112, 108, 97, 99, 101, 32]⟩ : ByteArray)) ++ t439) ++ (⟨#[32]⟩ : ByteArray)) ++ t440) ++ (⟨#[32]⟩ : ByteArray)) ++ t441) x6_3 a0_0 a0_1 a0_2 a0_3 l0_4 l0_5 ((rd_T46 l0_5 x6_3).f0) ((rd_T46 l0_5 x6_3).f1) ((rd_T46 l0_5 x6_3).f2) ((rd_T46 l0_5 x6_3).f3.f0) ((rd_T46 l0_5 x6_3).f3.f1) ((rd_T46 l0_5 x6_3).f4.f0) ((rd_T46 l0_5 x6_3).f4.f1))) else (none))) else (none)) else (none)) = some (r1, r2) := H; have A44 := Aside0.mk A440; clear A440
                                                by_cases c45 : x4_3.size + 6 + t439.size + 1 + t440.size ≤ 9223372036854775807
                                                · rw [if_pos c45] at H; have c45b0 := eq_true c45; have c45b1 : decide (x4_3.size + 6 + t439.size + 1 + t440.size ≤ 9223372036854775807) = true := decide_eq_true c45
                                                  try have c45b2 : (9223372036854775807 < x4_3.size + 6 + t439.size + 1 + t440.size) = False := eq_false (Nat.not_lt.2 c45)
                                                  by_cases c46 : x4_3.size + 6 + t439.size + 1 + t440.size + 1 ≤ 9223372036854775807
                                                  · rw [if_pos c46] at H; have c46b0 := eq_true c46; have c46b1 : decide (x4_3.size + 6 + t439.size + 1 + t440.size + 1 ≤ 9223372036854775807) = true := decide_eq_true c46
                                                    try have c46b2 : (9223372036854775807 < x4_3.size + 6 + t439.size + 1 + t440.size + 1) = False := eq_false (Nat.not_lt.2 c46)
                                                    replace H := Option.bind_eq_some_iff.mp H; obtain ⟨t441, A470, H⟩ := H; replace H : (if x4_3.size + 6 + t439.size + 1 + t440.size + 1 + t441.size ≤ 9223372036854775807 then (if (rd_T46 l0_5 x6_3).f3.f0 = true then (if x4_3.size + 6 + t439.size + 1 + t440.size + 1 + t441.size + 5 ≤ 9223372036854775807 then (garmentref34_Print.j3 k3 (((((((x4_3 ++ (⟨#[112, 108, 97, 99, 101, 32]⟩ : ByteArray)) ++ t439) ++ (⟨#[32]⟩ : ByteArray)) ++ t440) ++ (⟨#[32]⟩ : ByteArray)) ++ t441) ++ (⟨#[32, 102, 108, 105, 112]⟩ : ByteArray)) x6_3 a0_0 a0_1 a0_2 a0_3 l0_4 l0_5 ((rd_T46 l0_5 x6_3).f0) ((rd_T46 l0_5 x6_3).f1) ((rd_T46 l0_5 x6_3).f2) ((rd_T46 l0_5 x6_3).f3.f0) ((rd_T46 l0_5 x6_3).f3.f1) ((rd_T46 l0_5 x6_3).f4.f0) ((rd_T46 l0_5 x6_3).f4.f1)) else (none)) else (garmentref34_Print.j3 k3 ((((((x4_3 ++ (⟨#[112, 108, 97, 99, 101, 32]⟩ : ByteArray)) ++ t439) ++ (⟨#[32]⟩ : ByteArray)) ++ t440) ++ (⟨#[32]⟩ : ByteArray)) ++ t441) x6_3 a0_0 a0_1 a0_2 a0_3 l0_4 l0_5 ((rd_T46 l0_5 x6_3).f0) ((rd_T46 l0_5 x6_3).f1) ((rd_T46 l0_5 x6_3).f2) ((rd_T46 l0_5 x6_3).f3.f0) ((rd_T46 l0_5 x6_3).f3.f1) ((rd_T46 l0_5 x6_3).f4.f0) ((rd_T46 l0_5 x6_3).f4.f1))) else (none)) = some (r1, r2) := H; have A47 := Aside0.mk A470; clear A470
                                                    by_cases c48 : x4_3.size + 6 + t439.size + 1 + t440.size + 1 + t441.size ≤ 9223372036854775807
                                                    · rw [if_pos c48] at H; have c48b0 := eq_true c48; have c48b1 : decide (x4_3.size + 6 + t439.size + 1 + t440.size + 1 + t441.size ≤ 9223372036854775807) = true := decide_eq_true c48
                                                      try have c48b2 : (9223372036854775807 < x4_3.size + 6 + t439.size + 1 + t440.size + 1 + t441.size) = False := eq_false (Nat.not_lt.2 c48)
                                                      have HC49 := Aside0.mk H; clear H; have hcz50_0 := bc BK429.out 0 (.int .i64 a0_0) rfl; have hcz50_1 := bc BK429.out 1 (.int .i64 a0_1) rfl; have hcz50_2 := bc BK429.out 2 (.int .i64 a0_2) rfl; have hcz50_3 := bc BK429.out 3 (.int .i64 a0_3) rfl; have hcz50_4 := bc BK429.out 4 (.slice A0_4 l0_4.length c0_4) rfl; have hcz50_5 := bc BK429.out 5 (.slice A0_5 l0_5.length c0_5) rfl; have hfz50_0 := blk_frozen BK429.out 0; have hfz50_1 := blk_frozen BK429.out 1; have hfz50_2 := blk_frozen BK429.out 2; have hfz50_3 := blk_frozen BK429.out 3; have hfz50_4 := blk_frozen BK429.out 4; have hfz50_5 := blk_frozen BK429.out 5; have p437 : 0 ≤ (x6_3 : Int) := oda; have q437 : x6_3 < (l0_5.length : Int) := oda; obtain ⟨ad437, e437, hx437_0, hx437_1, hx437_2, hx437_3, hx437_4, hx437_5, hx437_6⟩ := at_T46 HR0_5.out x6_3 p437 q437; cases e437; replace hx437_0 := (HB.out.cell (World.block_lt_of_cell? w _ hx437_0)).trans hx437_0; replace hx437_1 := (HB.out.cell (World.block_lt_of_cell? w _ hx437_1)).trans hx437_1; replace hx437_2 := (HB.out.cell (World.block_lt_of_cell? w _ hx437_2)).trans hx437_2; replace hx437_3 := (HB.out.cell (World.block_lt_of_cell? w _ hx437_3)).trans hx437_3; replace hx437_4 := (HB.out.cell (World.block_lt_of_cell? w _ hx437_4)).trans hx437_4; replace hx437_5 := (HB.out.cell (World.block_lt_of_cell? w _ hx437_5)).trans hx437_5; replace hx437_6 := (HB.out.cell (World.block_lt_of_cell? w _ hx437_6)).trans hx437_6; replace p437 := eq_true p437; replace q437 := eq_true q437
                                                      try go_wp2_with (first | ((with_reducible refine gate_dst (N := 7) rfl ?_); (try (refine gate_guard (by rfl) ?_; dsimp only)); refine box_event ?hg (N := 7) ?hd (cs := #[.int .i64 0, .int .i64 0, .int .i64 0, .bool false, .int .i64 0, .int .i64 0, .int .i64 0]) (t := 46) ?hr ?_; (case hd => rfl); (case hg => rfl); (case hr => first | (go_simp; done) | (go_simp; rfl)); intro gb438 hg w51 hbox hb; have BK438 := Aside0.mk (hbox); have GW438 := Aside0.mk ((by rw [hg]; exact (below_size (be HB.out)) : w.heap.size ≤ gb438)); have GE438 := Aside0.mk ((by rw [hg]; exact (below_size (be HB.out)) : w.heap.size ≤ gb438)); have NB429_438 := Aside0.mk ((by rw [hg]; exact Nat.ne_of_lt (blk_lt (g := gb429) (o := .cells #[.int .i64 a0_0, .int .i64 a0_1, .int .i64 a0_2, .int .i64 a0_3, .slice A0_4 l0_4.length c0_4, .slice (some ad437) l0_5.length c0_5] 27 (0, 0)) (bu BK429.out)) : gb429 ≠ gb438)); have NB438_429 := Aside0.mk ((by rw [hg]; exact Nat.ne_of_gt (blk_lt (g := gb429) (o := .cells #[.int .i64 a0_0, .int .i64 a0_1, .int .i64 a0_2, .int .i64 a0_3, .slice A0_4 l0_4.length c0_4, .slice (some ad437) l0_5.length c0_5] 27 (0, 0)) (bu BK429.out)) : gb438 ≠ gb429)); replace BK429 := Aside0.mk (blk_below (bu BK429.out) hb); replace HB := Aside0.mk (below_step (be HB.out) hb); clear hb hbox hg; have hnb52 := NB438_429.out; have hnc52 := NB429_438.out; have hcz53_0 := bc BK438.out 0 (.int .i64 0) rfl; have hcz53_1 := bc BK438.out 1 (.int .i64 0) rfl; have hcz53_2 := bc BK438.out 2 (.int .i64 0) rfl; have hcz53_3 := bc BK438.out 3 (.bool false) rfl; have hcz53_4 := bc BK438.out 4 (.int .i64 0) rfl; have hcz53_5 := bc BK438.out 5 (.int .i64 0) rfl; have hcz53_6 := bc BK438.out 6 (.int .i64 0) rfl; have hfz53_0 := blk_frozen BK438.out 0; have hfz53_1 := blk_frozen BK438.out 1; have hfz53_2 := blk_frozen BK438.out 2; have hfz53_3 := blk_frozen BK438.out 3; have hfz53_4 := blk_frozen BK438.out 4; have hfz53_5 := blk_frozen BK438.out 5; have hfz53_6 := blk_frozen BK438.out 6))
                                                      have n0_ : Aside0 ((((((((w51.setCell ⟨gb438, 0, none⟩ (.int .i64 ((rd_T46 l0_5 x6_3).f0))).setCell ⟨gb438, 1, none⟩ (.int .i64 ((rd_T46 l0_5 x6_3).f1))).setCell ⟨gb438, 2, none⟩ (.int .i64 ((rd_T46 l0_5 x6_3).f2))).setCell ⟨gb438, 3, none⟩ (.bool ((rd_T46 l0_5 x6_3).f3.f0))).setCell ⟨gb438, 4, none⟩ (.int .i64 ((rd_T46 l0_5 x6_3).f3.f1))).setCell ⟨gb438, 5, none⟩ (.int .i64 ((rd_T46 l0_5 x6_3).f4.f0))).setCell ⟨gb438, 6, none⟩ (.int .i64 ((rd_T46 l0_5 x6_3).f4.f1))).heap[gb429]? = some (.cells #[.int .i64 a0_0, .int .i64 a0_1, .int .i64 a0_2, .int .i64 a0_3, .slice A0_4 l0_4.length c0_4, .slice (some ad437) l0_5.length c0_5] 27 (0, 0))) := ⟨by (with_reducible repeat (first | refine blk_drewN ?_ _ | refine blk_drew ?_ | refine blk_alloc ?_ _)); refine blk_far ?_ NB429_438.out _; (with_reducible repeat (first | refine blk_drewN ?_ _ | refine blk_drew ?_ | refine blk_alloc ?_ _)); refine blk_far ?_ NB429_438.out _; (with_reducible repeat (first | refine blk_drewN ?_ _ | refine blk_drew ?_ | refine blk_alloc ?_ _)); refine blk_far ?_ NB429_438.out _; (with_reducible repeat (first | refine blk_drewN ?_ _ | refine blk_drew ?_ | refine blk_alloc ?_ _)); refine blk_far ?_ NB429_438.out _; (with_reducible repeat (first | refine blk_drewN ?_ _ | refine blk_drew ?_ | refine blk_alloc ?_ _)); refine blk_far ?_ NB429_438.out _; (with_reducible repeat (first | refine blk_drewN ?_ _ | refine blk_drew ?_ | refine blk_alloc ?_ _)); refine blk_far ?_ NB429_438.out _; (with_reducible repeat (first | refine blk_drewN ?_ _ | refine blk_drew ?_ | refine blk_alloc ?_ _)); refine blk_far ?_ NB429_438.out _; (with_reducible repeat (first | refine blk_drewN ?_ _ | refine blk_drew ?_ | refine blk_alloc ?_ _)); exact BK429.out⟩; have n1_ : Aside0 ((((((((w51.setCell ⟨gb438, 0, none⟩ (.int .i64 ((rd_T46 l0_5 x6_3).f0))).setCell ⟨gb438, 1, none⟩ (.int .i64 ((rd_T46 l0_5 x6_3).f1))).setCell ⟨gb438, 2, none⟩ (.int .i64 ((rd_T46 l0_5 x6_3).f2))).setCell ⟨gb438, 3, none⟩ (.bool ((rd_T46 l0_5 x6_3).f3.f0))).setCell ⟨gb438, 4, none⟩ (.int .i64 ((rd_T46 l0_5 x6_3).f3.f1))).setCell ⟨gb438, 5, none⟩ (.int .i64 ((rd_T46 l0_5 x6_3).f4.f0))).setCell ⟨gb438, 6, none⟩ (.int .i64 ((rd_T46 l0_5 x6_3).f4.f1))).heap[gb438]? = some (.cells #[.int .i64 ((rd_T46 l0_5 x6_3).f0), .int .i64 ((rd_T46 l0_5 x6_3).f1), .int .i64 ((rd_T46 l0_5 x6_3).f2), .bool ((rd_T46 l0_5 x6_3).f3.f0), .int .i64 ((rd_T46 l0_5 x6_3).f3.f1), .int .i64 ((rd_T46 l0_5 x6_3).f4.f0), .int .i64 ((rd_T46 l0_5 x6_3).f4.f1)] 46 (0, 0))) := ⟨by (with_reducible repeat (first | refine blk_drewN ?_ _ | refine blk_drew ?_ | refine blk_alloc ?_ _)); refine blk_put (cs := #[.int .i64 ((rd_T46 l0_5 x6_3).f0), .int .i64 ((rd_T46 l0_5 x6_3).f1), .int .i64 ((rd_T46 l0_5 x6_3).f2), .bool ((rd_T46 l0_5 x6_3).f3.f0), .int .i64 ((rd_T46 l0_5 x6_3).f3.f1), .int .i64 ((rd_T46 l0_5 x6_3).f4.f0), .int .i64 0]) ?_ 6 _ rfl; (with_reducible repeat (first | refine blk_drewN ?_ _ | refine blk_drew ?_ | refine blk_alloc ?_ _)); refine blk_put (cs := #[.int .i64 ((rd_T46 l0_5 x6_3).f0), .int .i64 ((rd_T46 l0_5 x6_3).f1), .int .i64 ((rd_T46 l0_5 x6_3).f2), .bool ((rd_T46 l0_5 x6_3).f3.f0), .int .i64 ((rd_T46 l0_5 x6_3).f3.f1), .int .i64 0, .int .i64 0]) ?_ 5 _ rfl; (with_reducible repeat (first | refine blk_drewN ?_ _ | refine blk_drew ?_ | refine blk_alloc ?_ _)); refine blk_put (cs := #[.int .i64 ((rd_T46 l0_5 x6_3).f0), .int .i64 ((rd_T46 l0_5 x6_3).f1), .int .i64 ((rd_T46 l0_5 x6_3).f2), .bool ((rd_T46 l0_5 x6_3).f3.f0), .int .i64 0, .int .i64 0, .int .i64 0]) ?_ 4 _ rfl; (with_reducible repeat (first | refine blk_drewN ?_ _ | refine blk_drew ?_ | refine blk_alloc ?_ _)); refine blk_put (cs := #[.int .i64 ((rd_T46 l0_5 x6_3).f0), .int .i64 ((rd_T46 l0_5 x6_3).f1), .int .i64 ((rd_T46 l0_5 x6_3).f2), .bool false, .int .i64 0, .int .i64 0, .int .i64 0]) ?_ 3 _ rfl; (with_reducible repeat (first | refine blk_drewN ?_ _ | refine blk_drew ?_ | refine blk_alloc ?_ _)); refine blk_put (cs := #[.int .i64 ((rd_T46 l0_5 x6_3).f0), .int .i64 ((rd_T46 l0_5 x6_3).f1), .int .i64 0, .bool false, .int .i64 0, .int .i64 0, .int .i64 0]) ?_ 2 _ rfl; (with_reducible repeat (first | refine blk_drewN ?_ _ | refine blk_drew ?_ | refine blk_alloc ?_ _)); refine blk_put (cs := #[.int .i64 ((rd_T46 l0_5 x6_3).f0), .int .i64 0, .int .i64 0, .bool false, .int .i64 0, .int .i64 0, .int .i64 0]) ?_ 1 _ rfl; (with_reducible repeat (first | refine blk_drewN ?_ _ | refine blk_drew ?_ | refine blk_alloc ?_ _)); refine blk_put (cs := #[.int .i64 0, .int .i64 0, .int .i64 0, .bool false, .int .i64 0, .int .i64 0, .int .i64 0]) ?_ 0 _ rfl; (with_reducible repeat (first | refine blk_drewN ?_ _ | refine blk_drew ?_ | refine blk_alloc ?_ _)); exact BK438.out⟩
                                                      have n2_ : Aside0 (Below w.heap.size w (((((((w51.setCell ⟨gb438, 0, none⟩ (.int .i64 ((rd_T46 l0_5 x6_3).f0))).setCell ⟨gb438, 1, none⟩ (.int .i64 ((rd_T46 l0_5 x6_3).f1))).setCell ⟨gb438, 2, none⟩ (.int .i64 ((rd_T46 l0_5 x6_3).f2))).setCell ⟨gb438, 3, none⟩ (.bool ((rd_T46 l0_5 x6_3).f3.f0))).setCell ⟨gb438, 4, none⟩ (.int .i64 ((rd_T46 l0_5 x6_3).f3.f1))).setCell ⟨gb438, 5, none⟩ (.int .i64 ((rd_T46 l0_5 x6_3).f4.f0))).setCell ⟨gb438, 6, none⟩ (.int .i64 ((rd_T46 l0_5 x6_3).f4.f1)))) := ⟨be HB.out⟩
                                                      (try clear BK429)
                                                      (try clear BK438)
                                                      (try clear HB)
                                                      generalize (((((((w51.setCell ⟨gb438, 0, none⟩ (.int .i64 ((rd_T46 l0_5 x6_3).f0))).setCell ⟨gb438, 1, none⟩ (.int .i64 ((rd_T46 l0_5 x6_3).f1))).setCell ⟨gb438, 2, none⟩ (.int .i64 ((rd_T46 l0_5 x6_3).f2))).setCell ⟨gb438, 3, none⟩ (.bool ((rd_T46 l0_5 x6_3).f3.f0))).setCell ⟨gb438, 4, none⟩ (.int .i64 ((rd_T46 l0_5 x6_3).f3.f1))).setCell ⟨gb438, 5, none⟩ (.int .i64 ((rd_T46 l0_5 x6_3).f4.f0))).setCell ⟨gb438, 6, none⟩ (.int .i64 ((rd_T46 l0_5 x6_3).f4.f1))) = w54 at n0_ n1_ n2_ ⊢; have BK429 := n0_; have BK438 := n1_; have HB := n2_; clear n0_ n1_ n2_; replace BK429 := Aside0.mk (blk_drew BK429.out); replace BK438 := Aside0.mk (blk_drew BK438.out); replace HB := Aside0.mk (below_drew1 HB.out)
                                                      refine start_ (n := 17) (S := fun w' => w'.cell? ⟨gb438, 0, none⟩ = some (.int .i64 ((rd_T46 l0_5 x6_3).f0)) ∧ w'.cell? ⟨gb438, 1, none⟩ = some (.int .i64 ((rd_T46 l0_5 x6_3).f1)) ∧ w'.cell? ⟨gb438, 2, none⟩ = some (.int .i64 ((rd_T46 l0_5 x6_3).f2)) ∧ w'.cell? ⟨gb438, 3, none⟩ = some (.bool ((rd_T46 l0_5 x6_3).f3.f0)) ∧ w'.cell? ⟨gb438, 4, none⟩ = some (.int .i64 ((rd_T46 l0_5 x6_3).f3.f1)) ∧ w'.cell? ⟨gb438, 5, none⟩ = some (.int .i64 ((rd_T46 l0_5 x6_3).f4.f0)) ∧ w'.cell? ⟨gb438, 6, none⟩ = some (.int .i64 ((rd_T46 l0_5 x6_3).f4.f1))) (ds := []) #[false, false, false, false, false, false, false, false, false, false, false, false, false, false, false, false, false] (by kernel_rfl) rfl rfl ⟨(blk_cell BK438.out 0).trans rfl, (blk_cell BK438.out 1).trans rfl, (blk_cell BK438.out 2).trans rfl, (blk_cell BK438.out 3).trans rfl, (blk_cell BK438.out 4).trans rfl, (blk_cell BK438.out 5).trans rfl, (blk_cell BK438.out 6).trans rfl⟩ (fun hHeld => ?_); refine with_tabW garmentref34_Print.tab15 garmentref34_Print.bits15 (fun HT_ HW_ => ?_)
                                                      generalize w54.drew = w55 at BK429 BK438 HB hHeld ⊢; refine pureA (i := 0) (N := some 73) #[true, false, false, false, false, false, false, false, false, false, false, false, false, false, false, false, false] rfl rfl HT_.out (by kernel_rfl) ?_; refine pureA (i := 1) (N := some 74) #[true, true, false, false, false, false, false, false, false, false, false, false, false, false, false, false, false] rfl rfl HT_.out (by kernel_rfl) ?_; refine pureA (i := 2) (N := some 75) #[true, true, true, false, false, false, false, false, false, false, false, false, false, false, false, false, false] rfl rfl HT_.out (by kernel_rfl) ?_; refine pureA (i := 7) (N := some 80) #[true, true, true, false, false, false, false, true, false, false, false, false, false, false, false, false, false] rfl rfl HT_.out (by kernel_rfl) ?_; refine pureA (i := 12) (N := some 85) #[true, true, true, false, false, false, false, true, false, false, false, false, true, false, false, false, false] rfl rfl HT_.out (by kernel_rfl) ?_; refine take_ (i := 3) (N := some 76) (v := ?_) (a' := ?_) #[true, true, true, true, false, false, false, true, false, false, false, false, true, false, false, false, false] rfl rfl (take_ofW HT_.out HW_.out (by kernel_rfl)) (fun _ _ _ h => h) (Or.inl ⟨by rfl, ?_⟩) hHeld ?_ ?_
                                                      rotate_left
                                                      · rintro w' ⟨s0, s1, s2, s3, s4, s5, s6⟩
                                                        go_simp
                                                        with_reducible rfl
                                                      rotate_left
                                                      · simp only [Act.put, List.setIfInBounds_toArray, List.set_cons_zero, List.set_cons_succ, i64_w, i32_w]
                                                        rfl
                                                      refine take_ (i := 8) (N := some 81) (v := ?_) (a' := ?_) #[true, true, true, true, false, false, false, true, true, false, false, false, true, false, false, false, false] rfl rfl (take_ofW HT_.out HW_.out (by kernel_rfl)) (fun _ _ _ h => h) (Or.inl ⟨by rfl, ?_⟩) hHeld ?_ ?_
                                                      rotate_left
                                                      · rintro w' ⟨s0, s1, s2, s3, s4, s5, s6⟩
                                                        go_simp
                                                        with_reducible rfl
                                                      rotate_left
                                                      · simp only [Act.put, List.setIfInBounds_toArray, List.set_cons_zero, List.set_cons_succ, i64_w, i32_w]
                                                        rfl
                                                      refine take_ (i := 13) (N := some 86) (v := ?_) (a' := ?_) #[true, true, true, true, false, false, false, true, true, false, false, false, true, true, false, false, false] rfl rfl (take_ofW HT_.out HW_.out (by kernel_rfl)) (fun _ _ _ h => h) (Or.inl ⟨by rfl, ?_⟩) hHeld ?_ ?_
                                                      rotate_left
                                                      · rintro w' ⟨s0, s1, s2, s3, s4, s5, s6⟩
                                                        go_simp
                                                        with_reducible rfl
                                                      rotate_left
                                                      · simp only [Act.put, List.setIfInBounds_toArray, List.set_cons_zero, List.set_cons_succ, i64_w, i32_w]
                                                        rfl
                                                      refine one_ (i := 4) (N := some 77) #[true, true, true, true, true, false, false, true, true, false, false, false, true, true, false, false, false] rfl rfl (one_of HT_.out (by kernel_rfl)) (by decide) (fun K hK => ?_); refine goes_ Tryd.func22 (by kernel_rfl) rfl #[.int .i64 ((rd_T46 l0_5 x6_3).f0)] (by rfl) rfl rfl (by (try simp only [List.map_toArray, List.map_cons, List.map_nil]); first | done | rfl | (simp only [List.length_drop, List.length_take]; rfl)) ?_
                                                      with_reducible refine (garmentref34_number.calls k3 ((rd_T46 l0_5 x6_3).f0) t439 _ A41.out).mono ?_
                                                      rintro e w56 ⟨rfl, hb⟩
                                                      refine ⟨_, rfl, ?_⟩; replace BK429 := Aside0.mk (blk_below (bu BK429.out) hb); replace BK438 := Aside0.mk (blk_below (bu BK438.out) hb); replace HB := Aside0.mk (below_step (be HB.out) hb)
                                                      (try clear hb)
                                                      (try clear hb2)
                                                      (try clear hk)
                                                      (try clear hi)
                                                      refine hK.out _ _ ⟨(blk_cell BK438.out 0).trans rfl, (blk_cell BK438.out 1).trans rfl, (blk_cell BK438.out 2).trans rfl, (blk_cell BK438.out 3).trans rfl, (blk_cell BK438.out 4).trans rfl, (blk_cell BK438.out 5).trans rfl, (blk_cell BK438.out 6).trans rfl⟩ (fun hHeld => ?_); clear hK K; refine norm_ (a' := ?_) ?_ ?_
                                                      rotate_left
                                                      · show Act.put _ (some 77) _ = _
                                                        simp only [Act.put, List.setIfInBounds_toArray, List.set_cons_zero, List.set_cons_succ, i64_w, i32_w]
                                                        rfl
                                                      refine pureA (i := 5) (N := some 78) #[true, true, true, true, true, true, false, true, true, false, false, false, true, true, false, false, false] rfl rfl HT_.out (by kernel_rfl) ?_; refine pureA (i := 6) (N := some 79) #[true, true, true, true, true, true, true, true, true, false, false, false, true, true, false, false, false] rfl rfl HT_.out (by kernel_rfl) ?_; refine one_ (i := 9) (N := some 82) #[true, true, true, true, true, true, true, true, true, true, false, false, true, true, false, false, false] rfl rfl (one_of HT_.out (by kernel_rfl)) (by decide) (fun K hK => ?_); refine goes_ Tryd.func22 (by kernel_rfl) rfl #[.int .i64 ((rd_T46 l0_5 x6_3).f1)] (by rfl) rfl rfl (by (try simp only [List.map_toArray, List.map_cons, List.map_nil]); first | done | rfl | (simp only [List.length_drop, List.length_take]; rfl)) ?_
                                                      with_reducible refine (garmentref34_number.calls k3 ((rd_T46 l0_5 x6_3).f1) t440 _ A44.out).mono ?_
                                                      rintro e w57 ⟨rfl, hb⟩
                                                      refine ⟨_, rfl, ?_⟩; replace BK429 := Aside0.mk (blk_below (bu BK429.out) hb); replace BK438 := Aside0.mk (blk_below (bu BK438.out) hb); replace HB := Aside0.mk (below_step (be HB.out) hb)
                                                      (try clear hb)
                                                      (try clear hb2)
                                                      (try clear hk)
                                                      (try clear hi)
                                                      refine hK.out _ _ ⟨(blk_cell BK438.out 0).trans rfl, (blk_cell BK438.out 1).trans rfl, (blk_cell BK438.out 2).trans rfl, (blk_cell BK438.out 3).trans rfl, (blk_cell BK438.out 4).trans rfl, (blk_cell BK438.out 5).trans rfl, (blk_cell BK438.out 6).trans rfl⟩ (fun hHeld => ?_); clear hK K; refine norm_ (a' := ?_) ?_ ?_
                                                      rotate_left
                                                      · show Act.put _ (some 82) _ = _
                                                        simp only [Act.put, List.setIfInBounds_toArray, List.set_cons_zero, List.set_cons_succ, i64_w, i32_w]
                                                        rfl
                                                      refine pureA (i := 10) (N := some 83) #[true, true, true, true, true, true, true, true, true, true, true, false, true, true, false, false, false] rfl rfl HT_.out (by kernel_rfl) ?_; refine pureA (i := 11) (N := some 84) #[true, true, true, true, true, true, true, true, true, true, true, true, true, true, false, false, false] rfl rfl HT_.out (by kernel_rfl) ?_; refine one_ (i := 14) (N := some 87) #[true, true, true, true, true, true, true, true, true, true, true, true, true, true, true, false, false] rfl rfl (one_of HT_.out (by kernel_rfl)) (by decide) (fun K hK => ?_); refine goes_ Tryd.func22 (by kernel_rfl) rfl #[.int .i64 ((rd_T46 l0_5 x6_3).f2)] (by rfl) rfl rfl (by (try simp only [List.map_toArray, List.map_cons, List.map_nil]); first | done | rfl | (simp only [List.length_drop, List.length_take]; rfl)) ?_
                                                      with_reducible refine (garmentref34_number.calls k3 ((rd_T46 l0_5 x6_3).f2) t441 _ A47.out).mono ?_
                                                      rintro e w58 ⟨rfl, hb⟩
                                                      refine ⟨_, rfl, ?_⟩; replace BK429 := Aside0.mk (blk_below (bu BK429.out) hb); replace BK438 := Aside0.mk (blk_below (bu BK438.out) hb); replace HB := Aside0.mk (below_step (be HB.out) hb)
                                                      (try clear hb)
                                                      (try clear hb2)
                                                      (try clear hk)
                                                      (try clear hi)
                                                      refine hK.out _ _ ⟨(blk_cell BK438.out 0).trans rfl, (blk_cell BK438.out 1).trans rfl, (blk_cell BK438.out 2).trans rfl, (blk_cell BK438.out 3).trans rfl, (blk_cell BK438.out 4).trans rfl, (blk_cell BK438.out 5).trans rfl, (blk_cell BK438.out 6).trans rfl⟩ (fun hHeld => ?_); clear hK K; refine norm_ (a' := ?_) ?_ ?_
                                                      rotate_left
                                                      · show Act.put _ (some 87) _ = _
                                                        simp only [Act.put, List.setIfInBounds_toArray, List.set_cons_zero, List.set_cons_succ, i64_w, i32_w]
                                                        rfl
                                                      refine pureA (i := 15) (N := some 88) #[true, true, true, true, true, true, true, true, true, true, true, true, true, true, true, true, false] rfl rfl HT_.out (by kernel_rfl) ?_; refine pureA (i := 16) (N := some 4) #[true, true, true, true, true, true, true, true, true, true, true, true, true, true, true, true, true] rfl rfl HT_.out (by kernel_rfl) ?_; refine done_ (done_of HT_.out (by kernel_rfl)) ?_; have hcz59_0 := bc BK438.out 0 (.int .i64 ((rd_T46 l0_5 x6_3).f0)) rfl; have hcz59_1 := bc BK438.out 1 (.int .i64 ((rd_T46 l0_5 x6_3).f1)) rfl; have hcz59_2 := bc BK438.out 2 (.int .i64 ((rd_T46 l0_5 x6_3).f2)) rfl; have hcz59_3 := bc BK438.out 3 (.bool ((rd_T46 l0_5 x6_3).f3.f0)) rfl; have hcz59_4 := bc BK438.out 4 (.int .i64 ((rd_T46 l0_5 x6_3).f3.f1)) rfl; have hcz59_5 := bc BK438.out 5 (.int .i64 ((rd_T46 l0_5 x6_3).f4.f0)) rfl; have hcz59_6 := bc BK438.out 6 (.int .i64 ((rd_T46 l0_5 x6_3).f4.f1)) rfl; have hfz59_0 := blk_frozen BK438.out 0; have hfz59_1 := blk_frozen BK438.out 1; have hfz59_2 := blk_frozen BK438.out 2; have hfz59_3 := blk_frozen BK438.out 3; have hfz59_4 := blk_frozen BK438.out 4; have hfz59_5 := blk_frozen BK438.out 5; have hfz59_6 := blk_frozen BK438.out 6
                                                      go_upto_if 91 with (fail)
                                                      go_cut [4] (fun v4 wc => ∃ (kq : Nat) (x4_48 : ByteArray), v4 = .string x4_48 ∧ Aside0 (garmentref34_Print.j3 kq x4_48 x6_3 a0_0 a0_1 a0_2 a0_3 l0_4 l0_5 ((rd_T46 l0_5 x6_3).f0) ((rd_T46 l0_5 x6_3).f1) ((rd_T46 l0_5 x6_3).f2) ((rd_T46 l0_5 x6_3).f3.f0) ((rd_T46 l0_5 x6_3).f3.f1) ((rd_T46 l0_5 x6_3).f4.f0) ((rd_T46 l0_5 x6_3).f4.f1) = some (r1, r2)) ∧ Aside0 (kq ≤ k3) ∧ Aside0 (wc.heap[gb429]? = some (.cells #[.int .i64 a0_0, .int .i64 a0_1, .int .i64 a0_2, .int .i64 a0_3, (.slice A0_4 l0_4.length c0_4), (.slice (some ad437) l0_5.length c0_5)] 27 (0, 0))) ∧ Aside0 (wc.heap[gb438]? = some (.cells #[.int .i64 ((rd_T46 l0_5 x6_3).f0), .int .i64 ((rd_T46 l0_5 x6_3).f1), .int .i64 ((rd_T46 l0_5 x6_3).f2), .bool ((rd_T46 l0_5 x6_3).f3.f0), .int .i64 ((rd_T46 l0_5 x6_3).f3.f1), .int .i64 ((rd_T46 l0_5 x6_3).f4.f0), .int .i64 ((rd_T46 l0_5 x6_3).f4.f1)] 46 (0, 0))) ∧ Aside0 (Below w.heap.size w wc))
                                                      case first =>
                                                        have H := HC49.out; clear HC49; obtain ⟨bq60, hbq60⟩ : ∃ b_ : Bool, b_ = ((rd_T46 l0_5 x6_3).f3.f0) := ⟨_, rfl⟩
                                                        replace H : (if bq60 = true then (if x4_3.size + 6 + t439.size + 1 + t440.size + 1 + t441.size + 5 ≤ 9223372036854775807 then (garmentref34_Print.j3 k3 (((((((x4_3 ++ (⟨#[112, 108, 97, 99, 101, 32]⟩ : ByteArray)) ++ t439) ++ (⟨#[32]⟩ : ByteArray)) ++ t440) ++ (⟨#[32]⟩ : ByteArray)) ++ t441) ++ (⟨#[32, 102, 108, 105, 112]⟩ : ByteArray)) x6_3 a0_0 a0_1 a0_2 a0_3 l0_4 l0_5 ((rd_T46 l0_5 x6_3).f0) ((rd_T46 l0_5 x6_3).f1) ((rd_T46 l0_5 x6_3).f2) bq60 ((rd_T46 l0_5 x6_3).f3.f1) ((rd_T46 l0_5 x6_3).f4.f0) ((rd_T46 l0_5 x6_3).f4.f1)) else (none)) else (garmentref34_Print.j3 k3 ((((((x4_3 ++ (⟨#[112, 108, 97, 99, 101, 32]⟩ : ByteArray)) ++ t439) ++ (⟨#[32]⟩ : ByteArray)) ++ t440) ++ (⟨#[32]⟩ : ByteArray)) ++ t441) x6_3 a0_0 a0_1 a0_2 a0_3 l0_4 l0_5 ((rd_T46 l0_5 x6_3).f0) ((rd_T46 l0_5 x6_3).f1) ((rd_T46 l0_5 x6_3).f2) bq60 ((rd_T46 l0_5 x6_3).f3.f1) ((rd_T46 l0_5 x6_3).f4.f0) ((rd_T46 l0_5 x6_3).f4.f1))) = some (r1, r2) := by rw [← hbq60] at H; exact H
                                                        have Nbq60 := Aside0.mk hbq60; clear hbq60
                                                        (try rw [← Nbq60.out])
                                                        by_cases c61 : bq60 = true
                                                        · subst c61
                                                          have H1 : (if x4_3.size + 6 + t439.size + 1 + t440.size + 1 + t441.size + 5 ≤ 9223372036854775807 then (garmentref34_Print.j3 k3 (((((((x4_3 ++ (⟨#[112, 108, 97, 99, 101, 32]⟩ : ByteArray)) ++ t439) ++ (⟨#[32]⟩ : ByteArray)) ++ t440) ++ (⟨#[32]⟩ : ByteArray)) ++ t441) ++ (⟨#[32, 102, 108, 105, 112]⟩ : ByteArray)) x6_3 a0_0 a0_1 a0_2 a0_3 l0_4 l0_5 ((rd_T46 l0_5 x6_3).f0) ((rd_T46 l0_5 x6_3).f1) ((rd_T46 l0_5 x6_3).f2) true ((rd_T46 l0_5 x6_3).f3.f1) ((rd_T46 l0_5 x6_3).f4.f0) ((rd_T46 l0_5 x6_3).f4.f1)) else (none)) = some (r1, r2) := by rw [if_pos rfl] at H; exact H
                                                          clear H; have H := H1; clear H1
                                                          by_cases c62 : x4_3.size + 6 + t439.size + 1 + t440.size + 1 + t441.size + 5 ≤ 9223372036854775807
                                                          · rw [if_pos c62] at H; have c62b0 := eq_true c62; have c62b1 : decide (x4_3.size + 6 + t439.size + 1 + t440.size + 1 + t441.size + 5 ≤ 9223372036854775807) = true := decide_eq_true c62
                                                            try have c62b2 : (9223372036854775807 < x4_3.size + 6 + t439.size + 1 + t440.size + 1 + t441.size + 5) = False := eq_false (Nat.not_lt.2 c62)
                                                            have H' := Aside0.mk H; clear H
                                                            go_wp2
                                                            go_meet
                                                            case rel => exact ⟨_, (((((((x4_3 ++ (⟨#[112, 108, 97, 99, 101, 32]⟩ : ByteArray)) ++ t439) ++ (⟨#[32]⟩ : ByteArray)) ++ t440) ++ (⟨#[32]⟩ : ByteArray)) ++ t441) ++ (⟨#[32, 102, 108, 105, 112]⟩ : ByteArray)), (by first | rfl | (simp; done) | (simp [*]; done)), (by first | exact H' | (rw [← Nbq60.out]; exact H')), ⟨by have := HJ1.out; have := HK2.out; have := HK3.out; first | omega | exact Nat.le_refl _⟩, ⟨bu (BK429.out)⟩, ⟨bu (BK438.out)⟩, ⟨be HB.out⟩⟩
                                                          · rw [if_neg c62] at H; exact absurd H (by simp)
                                                        · replace c61 := Bool.eq_false_iff.mpr c61; subst c61
                                                          have H1 : (garmentref34_Print.j3 k3 ((((((x4_3 ++ (⟨#[112, 108, 97, 99, 101, 32]⟩ : ByteArray)) ++ t439) ++ (⟨#[32]⟩ : ByteArray)) ++ t440) ++ (⟨#[32]⟩ : ByteArray)) ++ t441) x6_3 a0_0 a0_1 a0_2 a0_3 l0_4 l0_5 ((rd_T46 l0_5 x6_3).f0) ((rd_T46 l0_5 x6_3).f1) ((rd_T46 l0_5 x6_3).f2) false ((rd_T46 l0_5 x6_3).f3.f1) ((rd_T46 l0_5 x6_3).f4.f0) ((rd_T46 l0_5 x6_3).f4.f1)) = some (r1, r2) := by rw [if_neg (show ¬ (false = true) by decide)] at H; exact H
                                                          clear H; have H := H1; clear H1; have H' := Aside0.mk H; clear H
                                                          go_wp2
                                                          go_meet
                                                          case rel => exact ⟨_, ((((((x4_3 ++ (⟨#[112, 108, 97, 99, 101, 32]⟩ : ByteArray)) ++ t439) ++ (⟨#[32]⟩ : ByteArray)) ++ t440) ++ (⟨#[32]⟩ : ByteArray)) ++ t441), (by first | rfl | (simp; done) | (simp [*]; done)), (by first | exact H' | (rw [← Nbq60.out]; exact H')), ⟨by have := HJ1.out; have := HK2.out; have := HK3.out; first | omega | exact Nat.le_refl _⟩, ⟨bu (BK429.out)⟩, ⟨bu (BK438.out)⟩, ⟨be HB.out⟩⟩
                                                      case rest =>
                                                        clear HC49
                                                        try clear c1
                                                        try clear c2
                                                        try clear p2
                                                        try clear c3
                                                        try clear c4
                                                        try clear c4b0
                                                        try clear c4b1
                                                        try clear p4
                                                        try clear q4
                                                        try clear hx4
                                                        try clear c5
                                                        try clear c6
                                                        try clear p6
                                                        try clear q6
                                                        try clear c7
                                                        try clear c9
                                                        try clear c11
                                                        try clear c11b0
                                                        try clear c11b1
                                                        try clear c11b2
                                                        try clear c12
                                                        try clear c12b0
                                                        try clear c12b1
                                                        try clear c12b2
                                                        try clear c14
                                                        try clear c14b0
                                                        try clear c14b1
                                                        try clear c14b2
                                                        try clear c15
                                                        try clear c15b0
                                                        try clear c15b1
                                                        try clear c15b2
                                                        try clear c17
                                                        try clear c17b0
                                                        try clear c17b1
                                                        try clear c17b2
                                                        try clear c18
                                                        try clear c18b0
                                                        try clear c18b1
                                                        try clear c18b2
                                                        try clear c20
                                                        try clear c20b0
                                                        try clear c20b1
                                                        try clear c20b2
                                                        try clear c21
                                                        try clear c21b0
                                                        try clear c21b1
                                                        try clear c21b2
                                                        try clear c22
                                                        try clear c29
                                                        try clear c29b0
                                                        try clear c30
                                                        try clear c30b0
                                                        try clear c30b1
                                                        try clear c30b2
                                                        try clear c31
                                                        try clear c31b0
                                                        try clear c33
                                                        try clear c33b0
                                                        try clear c33b1
                                                        try clear c33b2
                                                        try clear c36
                                                        try clear c36b0
                                                        try clear c36b1
                                                        try clear c36b2
                                                        try clear c38
                                                        try clear c38b0
                                                        try clear c39
                                                        try clear c39b0
                                                        try clear c40
                                                        try clear c40b0
                                                        try clear c40b1
                                                        try clear c40b2
                                                        try clear c42
                                                        try clear c42b0
                                                        try clear c42b1
                                                        try clear c42b2
                                                        try clear c43
                                                        try clear c43b0
                                                        try clear c43b1
                                                        try clear c43b2
                                                        try clear p43
                                                        try clear q43
                                                        try clear hx43
                                                        try clear c45
                                                        try clear c45b0
                                                        try clear c45b1
                                                        try clear c45b2
                                                        try clear c46
                                                        try clear c46b0
                                                        try clear c46b1
                                                        try clear c46b2
                                                        try clear c48
                                                        try clear c48b0
                                                        try clear c48b1
                                                        try clear c48b2
                                                        try clear c52
                                                        try clear q60
                                                        try clear c61
                                                        try clear c62
                                                        try clear c62b0
                                                        try clear c62b1
                                                        try clear c62b2
                                                        try clear hcz22_0 hcz22_1 hcz22_2 hcz22_3 hcz22_4 hcz22_5
                                                        try clear hcz34_0 hcz34_1 hcz34_2 hcz34_3 hcz34_4 hcz34_5
                                                        try clear hcz37_0 hcz37_1 hcz37_2 hcz37_3 hcz37_4 hcz37_5
                                                        try clear hcz50_0 hcz50_1 hcz50_2 hcz50_3 hcz50_4 hcz50_5
                                                        try clear hcz53_0 hcz53_1 hcz53_2 hcz53_3 hcz53_4 hcz53_5 hcz53_6
                                                        try clear hcz59_0 hcz59_1 hcz59_2 hcz59_3 hcz59_4 hcz59_5 hcz59_6
                                                        try clear hcz5_0 hcz5_1 hcz5_2 hcz5_3 hcz5_4 hcz5_5
                                                        try clear hcz6_0 hcz6_1 hcz6_2 hcz6_3 hcz6_4 hcz6_5
                                                        try clear hfz22_0 hfz22_1 hfz22_2 hfz22_3 hfz22_4 hfz22_5
                                                        try clear hfz34_0 hfz34_1 hfz34_2 hfz34_3 hfz34_4 hfz34_5
                                                        try clear hfz37_0 hfz37_1 hfz37_2 hfz37_3 hfz37_4 hfz37_5
                                                        try clear hfz50_0 hfz50_1 hfz50_2 hfz50_3 hfz50_4 hfz50_5
                                                        try clear hfz53_0 hfz53_1 hfz53_2 hfz53_3 hfz53_4 hfz53_5 hfz53_6
                                                        try clear hfz59_0 hfz59_1 hfz59_2 hfz59_3 hfz59_4 hfz59_5 hfz59_6
                                                        try clear hfz5_0 hfz5_1 hfz5_2 hfz5_3 hfz5_4 hfz5_5
                                                        try clear hfz6_0 hfz6_1 hfz6_2 hfz6_3 hfz6_4 hfz6_5
                                                        try clear hx435_0
                                                        try clear hx437_0
                                                        try clear hx437_1
                                                        try clear hx437_2
                                                        try clear hx437_3
                                                        try clear hx437_4
                                                        try clear hx437_5
                                                        try clear hx437_6
                                                        try clear p2
                                                        try clear p4
                                                        try clear p435
                                                        try clear p437
                                                        try clear p6
                                                        try clear q4
                                                        try clear q435
                                                        try clear q437
                                                        obtain ⟨kq, x4_48, rfl, HA, HJ48, BK429, BK438, HB⟩ := hcut
                                                        cases kq with
                                                        | zero => exact absurd HA.out (by simp [garmentref34_Print.j3])
                                                        | succ kj48 =>
                                                          have H := HA.out; clear HA; simp only [garmentref34_Print.j3] at H
                                                          by_cases c63 : x4_48.size + 1 ≤ 9223372036854775807
                                                          · rw [if_pos c63] at H; have c63b0 := eq_true c63; have c63b1 : decide (x4_48.size + 1 ≤ 9223372036854775807) = true := decide_eq_true c63
                                                            try have c63b2 : (9223372036854775807 < x4_48.size + 1) = False := eq_false (Nat.not_lt.2 c63)
                                                            replace H := Option.bind_eq_some_iff.mp H; obtain ⟨t442, A640, H⟩ := H; replace H : (if x4_48.size + 1 + t442.size ≤ 9223372036854775807 then (if x4_48.size + 1 + t442.size + 1 ≤ 9223372036854775807 then ((garmentref34_number.f kj48 ((rd_T46 l0_5 x6_3).f4.f0)).bind fun t443 => (if x4_48.size + 1 + t442.size + 1 + t443.size ≤ 9223372036854775807 then (if x4_48.size + 1 + t442.size + 1 + t443.size + 1 ≤ 9223372036854775807 then ((garmentref34_number.f kj48 ((rd_T46 l0_5 x6_3).f4.f1)).bind fun t444 => (if x4_48.size + 1 + t442.size + 1 + t443.size + 1 + t444.size ≤ 9223372036854775807 then (if x4_48.size + 1 + t442.size + 1 + t443.size + 1 + t444.size + 1 ≤ 9223372036854775807 then (garmentref34_Print.l1 kj48 (((((((x4_48 ++ (⟨#[32]⟩ : ByteArray)) ++ t442) ++ (⟨#[32]⟩ : ByteArray)) ++ t443) ++ (⟨#[32]⟩ : ByteArray)) ++ t444) ++ (⟨#[10]⟩ : ByteArray)) (wrap64 (x6_3 + 1)) a0_0 a0_1 a0_2 a0_3 l0_4 l0_5) else (none)) else (none))) else (none)) else (none))) else (none)) else (none)) = some (r1, r2) := H; have A64 := Aside0.mk A640; clear A640
                                                            by_cases c65 : x4_48.size + 1 + t442.size ≤ 9223372036854775807
                                                            · rw [if_pos c65] at H; have c65b0 := eq_true c65; have c65b1 : decide (x4_48.size + 1 + t442.size ≤ 9223372036854775807) = true := decide_eq_true c65
                                                              try have c65b2 : (9223372036854775807 < x4_48.size + 1 + t442.size) = False := eq_false (Nat.not_lt.2 c65)
                                                              by_cases c66 : x4_48.size + 1 + t442.size + 1 ≤ 9223372036854775807
                                                              · rw [if_pos c66] at H; have c66b0 := eq_true c66; have c66b1 : decide (x4_48.size + 1 + t442.size + 1 ≤ 9223372036854775807) = true := decide_eq_true c66
                                                                try have c66b2 : (9223372036854775807 < x4_48.size + 1 + t442.size + 1) = False := eq_false (Nat.not_lt.2 c66)
                                                                replace H := Option.bind_eq_some_iff.mp H; obtain ⟨t443, A670, H⟩ := H; replace H : (if x4_48.size + 1 + t442.size + 1 + t443.size ≤ 9223372036854775807 then (if x4_48.size + 1 + t442.size + 1 + t443.size + 1 ≤ 9223372036854775807 then ((garmentref34_number.f kj48 ((rd_T46 l0_5 x6_3).f4.f1)).bind fun t444 => (if x4_48.size + 1 + t442.size + 1 + t443.size + 1 + t444.size ≤ 9223372036854775807 then (if x4_48.size + 1 + t442.size + 1 + t443.size + 1 + t444.size + 1 ≤ 9223372036854775807 then (garmentref34_Print.l1 kj48 (((((((x4_48 ++ (⟨#[32]⟩ : ByteArray)) ++ t442) ++ (⟨#[32]⟩ : ByteArray)) ++ t443) ++ (⟨#[32]⟩ : ByteArray)) ++ t444) ++ (⟨#[10]⟩ : ByteArray)) (wrap64 (x6_3 + 1)) a0_0 a0_1 a0_2 a0_3 l0_4 l0_5) else (none)) else (none))) else (none)) else (none)) = some (r1, r2) := H; have A67 := Aside0.mk A670; clear A670
                                                                by_cases c68 : x4_48.size + 1 + t442.size + 1 + t443.size ≤ 9223372036854775807
                                                                · rw [if_pos c68] at H; have c68b0 := eq_true c68; have c68b1 : decide (x4_48.size + 1 + t442.size + 1 + t443.size ≤ 9223372036854775807) = true := decide_eq_true c68
                                                                  try have c68b2 : (9223372036854775807 < x4_48.size + 1 + t442.size + 1 + t443.size) = False := eq_false (Nat.not_lt.2 c68)
                                                                  by_cases c69 : x4_48.size + 1 + t442.size + 1 + t443.size + 1 ≤ 9223372036854775807
                                                                  · rw [if_pos c69] at H; have c69b0 := eq_true c69; have c69b1 : decide (x4_48.size + 1 + t442.size + 1 + t443.size + 1 ≤ 9223372036854775807) = true := decide_eq_true c69
                                                                    try have c69b2 : (9223372036854775807 < x4_48.size + 1 + t442.size + 1 + t443.size + 1) = False := eq_false (Nat.not_lt.2 c69)
                                                                    replace H := Option.bind_eq_some_iff.mp H; obtain ⟨t444, A700, H⟩ := H; replace H : (if x4_48.size + 1 + t442.size + 1 + t443.size + 1 + t444.size ≤ 9223372036854775807 then (if x4_48.size + 1 + t442.size + 1 + t443.size + 1 + t444.size + 1 ≤ 9223372036854775807 then (garmentref34_Print.l1 kj48 (((((((x4_48 ++ (⟨#[32]⟩ : ByteArray)) ++ t442) ++ (⟨#[32]⟩ : ByteArray)) ++ t443) ++ (⟨#[32]⟩ : ByteArray)) ++ t444) ++ (⟨#[10]⟩ : ByteArray)) (wrap64 (x6_3 + 1)) a0_0 a0_1 a0_2 a0_3 l0_4 l0_5) else (none)) else (none)) = some (r1, r2) := H; have A70 := Aside0.mk A700; clear A700
                                                                    by_cases c71 : x4_48.size + 1 + t442.size + 1 + t443.size + 1 + t444.size ≤ 9223372036854775807
                                                                    · rw [if_pos c71] at H; have c71b0 := eq_true c71; have c71b1 : decide (x4_48.size + 1 + t442.size + 1 + t443.size + 1 + t444.size ≤ 9223372036854775807) = true := decide_eq_true c71
                                                                      try have c71b2 : (9223372036854775807 < x4_48.size + 1 + t442.size + 1 + t443.size + 1 + t444.size) = False := eq_false (Nat.not_lt.2 c71)
                                                                      by_cases c72 : x4_48.size + 1 + t442.size + 1 + t443.size + 1 + t444.size + 1 ≤ 9223372036854775807
                                                                      · rw [if_pos c72] at H; have c72b0 := eq_true c72; have c72b1 : decide (x4_48.size + 1 + t442.size + 1 + t443.size + 1 + t444.size + 1 ≤ 9223372036854775807) = true := decide_eq_true c72
                                                                        try have c72b2 : (9223372036854775807 < x4_48.size + 1 + t442.size + 1 + t443.size + 1 + t444.size + 1) = False := eq_false (Nat.not_lt.2 c72)
                                                                        have H' := Aside0.mk H; clear H
                                                                        try go_wp2
                                                                        replace BK429 := Aside0.mk (blk_drew BK429.out); replace BK438 := Aside0.mk (blk_drew BK438.out); replace HB := Aside0.mk (below_drew1 HB.out)
                                                                        refine start_ (n := 21) (S := fun w' => w'.cell? ⟨gb438, 0, none⟩ = some (.int .i64 ((rd_T46 l0_5 x6_3).f0)) ∧ w'.cell? ⟨gb438, 1, none⟩ = some (.int .i64 ((rd_T46 l0_5 x6_3).f1)) ∧ w'.cell? ⟨gb438, 2, none⟩ = some (.int .i64 ((rd_T46 l0_5 x6_3).f2)) ∧ w'.cell? ⟨gb438, 3, none⟩ = some (.bool ((rd_T46 l0_5 x6_3).f3.f0)) ∧ w'.cell? ⟨gb438, 4, none⟩ = some (.int .i64 ((rd_T46 l0_5 x6_3).f3.f1)) ∧ w'.cell? ⟨gb438, 5, none⟩ = some (.int .i64 ((rd_T46 l0_5 x6_3).f4.f0)) ∧ w'.cell? ⟨gb438, 6, none⟩ = some (.int .i64 ((rd_T46 l0_5 x6_3).f4.f1))) (ds := []) #[false, false, false, false, false, false, false, false, false, false, false, false, false, false, false, false, false, false, false, false, false] (by kernel_rfl) rfl rfl ⟨(blk_cell BK438.out 0).trans rfl, (blk_cell BK438.out 1).trans rfl, (blk_cell BK438.out 2).trans rfl, (blk_cell BK438.out 3).trans rfl, (blk_cell BK438.out 4).trans rfl, (blk_cell BK438.out 5).trans rfl, (blk_cell BK438.out 6).trans rfl⟩ (fun hHeld => ?_); refine with_tabW garmentref34_Print.tab18 garmentref34_Print.bits18 (fun HT_ HW_ => ?_)
                                                                        generalize wc.drew = w73 at BK429 BK438 HB hHeld ⊢; refine pureA (i := 0) (N := some 94) #[true, false, false, false, false, false, false, false, false, false, false, false, false, false, false, false, false, false, false, false, false] rfl rfl HT_.out (by kernel_rfl) ?_; refine pureA (i := 1) (N := some 95) #[true, true, false, false, false, false, false, false, false, false, false, false, false, false, false, false, false, false, false, false, false] rfl rfl HT_.out (by kernel_rfl) ?_; refine pureA (i := 2) (N := some 96) #[true, true, true, false, false, false, false, false, false, false, false, false, false, false, false, false, false, false, false, false, false] rfl rfl HT_.out (by kernel_rfl) ?_; refine pureA (i := 3) (N := some 97) #[true, true, true, true, false, false, false, false, false, false, false, false, false, false, false, false, false, false, false, false, false] rfl rfl HT_.out (by kernel_rfl) ?_; refine pureA (i := 8) (N := some 102) #[true, true, true, true, false, false, false, false, true, false, false, false, false, false, false, false, false, false, false, false, false] rfl rfl HT_.out (by kernel_rfl) ?_; refine pureA (i := 9) (N := some 103) #[true, true, true, true, false, false, false, false, true, true, false, false, false, false, false, false, false, false, false, false, false] rfl rfl HT_.out (by kernel_rfl) ?_; refine pureA (i := 14) (N := some 108) #[true, true, true, true, false, false, false, false, true, true, false, false, false, false, true, false, false, false, false, false, false] rfl rfl HT_.out (by kernel_rfl) ?_; refine pureA (i := 15) (N := some 109) #[true, true, true, true, false, false, false, false, true, true, false, false, false, false, true, true, false, false, false, false, false] rfl rfl HT_.out (by kernel_rfl) ?_; refine take_ (i := 4) (N := some 98) (v := ?_) (a' := ?_) #[true, true, true, true, true, false, false, false, true, true, false, false, false, false, true, true, false, false, false, false, false] rfl rfl (take_ofW HT_.out HW_.out (by kernel_rfl)) (fun _ _ _ h => h) (Or.inl ⟨by rfl, ?_⟩) hHeld ?_ ?_
                                                                        rotate_left
                                                                        · rintro w' ⟨s0, s1, s2, s3, s4, s5, s6⟩
                                                                          go_simp
                                                                          with_reducible rfl
                                                                        rotate_left
                                                                        · simp only [Act.put, List.setIfInBounds_toArray, List.set_cons_zero, List.set_cons_succ, i64_w, i32_w]
                                                                          rfl
                                                                        refine take_ (i := 10) (N := some 104) (v := ?_) (a' := ?_) #[true, true, true, true, true, false, false, false, true, true, true, false, false, false, true, true, false, false, false, false, false] rfl rfl (take_ofW HT_.out HW_.out (by kernel_rfl)) (fun _ _ _ h => h) (Or.inl ⟨by rfl, ?_⟩) hHeld ?_ ?_
                                                                        rotate_left
                                                                        · rintro w' ⟨s0, s1, s2, s3, s4, s5, s6⟩
                                                                          go_simp
                                                                          with_reducible rfl
                                                                        rotate_left
                                                                        · simp only [Act.put, List.setIfInBounds_toArray, List.set_cons_zero, List.set_cons_succ, i64_w, i32_w]
                                                                          rfl
                                                                        refine take_ (i := 16) (N := some 110) (v := ?_) (a' := ?_) #[true, true, true, true, true, false, false, false, true, true, true, false, false, false, true, true, true, false, false, false, false] rfl rfl (take_ofW HT_.out HW_.out (by kernel_rfl)) (fun _ _ _ h => h) (Or.inl ⟨by rfl, ?_⟩) hHeld ?_ ?_
                                                                        rotate_left
                                                                        · rintro w' ⟨s0, s1, s2, s3, s4, s5, s6⟩
                                                                          go_simp
                                                                          with_reducible rfl
                                                                        rotate_left
                                                                        · simp only [Act.put, List.setIfInBounds_toArray, List.set_cons_zero, List.set_cons_succ, i64_w, i32_w]
                                                                          rfl
                                                                        refine one_ (i := 5) (N := some 99) #[true, true, true, true, true, true, false, false, true, true, true, false, false, false, true, true, true, false, false, false, false] rfl rfl (one_of HT_.out (by kernel_rfl)) (by decide) (fun K hK => ?_); refine goes_ Tryd.func22 (by kernel_rfl) rfl #[.int .i64 ((rd_T46 l0_5 x6_3).f3.f1)] (by rfl) rfl rfl (by (try simp only [List.map_toArray, List.map_cons, List.map_nil]); first | done | rfl | (simp only [List.length_drop, List.length_take]; rfl)) ?_
                                                                        with_reducible refine (garmentref34_number.calls kj48 ((rd_T46 l0_5 x6_3).f3.f1) t442 _ A64.out).mono ?_
                                                                        rintro e w74 ⟨rfl, hb⟩
                                                                        refine ⟨_, rfl, ?_⟩; replace BK429 := Aside0.mk (blk_below (bu BK429.out) hb); replace BK438 := Aside0.mk (blk_below (bu BK438.out) hb); replace HB := Aside0.mk (below_step (be HB.out) hb)
                                                                        (try clear hb)
                                                                        (try clear hb2)
                                                                        (try clear hk)
                                                                        (try clear hi)
                                                                        refine hK.out _ _ ⟨(blk_cell BK438.out 0).trans rfl, (blk_cell BK438.out 1).trans rfl, (blk_cell BK438.out 2).trans rfl, (blk_cell BK438.out 3).trans rfl, (blk_cell BK438.out 4).trans rfl, (blk_cell BK438.out 5).trans rfl, (blk_cell BK438.out 6).trans rfl⟩ (fun hHeld => ?_); clear hK K; refine norm_ (a' := ?_) ?_ ?_
                                                                        rotate_left
                                                                        · show Act.put _ (some 99) _ = _
                                                                          simp only [Act.put, List.setIfInBounds_toArray, List.set_cons_zero, List.set_cons_succ, i64_w, i32_w]
                                                                          rfl
                                                                        refine pureA (i := 6) (N := some 100) #[true, true, true, true, true, true, true, false, true, true, true, false, false, false, true, true, true, false, false, false, false] rfl rfl HT_.out (by kernel_rfl) ?_; refine pureA (i := 7) (N := some 101) #[true, true, true, true, true, true, true, true, true, true, true, false, false, false, true, true, true, false, false, false, false] rfl rfl HT_.out (by kernel_rfl) ?_; refine one_ (i := 11) (N := some 105) #[true, true, true, true, true, true, true, true, true, true, true, true, false, false, true, true, true, false, false, false, false] rfl rfl (one_of HT_.out (by kernel_rfl)) (by decide) (fun K hK => ?_); refine goes_ Tryd.func22 (by kernel_rfl) rfl #[.int .i64 ((rd_T46 l0_5 x6_3).f4.f0)] (by rfl) rfl rfl (by (try simp only [List.map_toArray, List.map_cons, List.map_nil]); first | done | rfl | (simp only [List.length_drop, List.length_take]; rfl)) ?_
                                                                        with_reducible refine (garmentref34_number.calls kj48 ((rd_T46 l0_5 x6_3).f4.f0) t443 _ A67.out).mono ?_
                                                                        rintro e w75 ⟨rfl, hb⟩
                                                                        refine ⟨_, rfl, ?_⟩; replace BK429 := Aside0.mk (blk_below (bu BK429.out) hb); replace BK438 := Aside0.mk (blk_below (bu BK438.out) hb); replace HB := Aside0.mk (below_step (be HB.out) hb)
                                                                        (try clear hb)
                                                                        (try clear hb2)
                                                                        (try clear hk)
                                                                        (try clear hi)
                                                                        refine hK.out _ _ ⟨(blk_cell BK438.out 0).trans rfl, (blk_cell BK438.out 1).trans rfl, (blk_cell BK438.out 2).trans rfl, (blk_cell BK438.out 3).trans rfl, (blk_cell BK438.out 4).trans rfl, (blk_cell BK438.out 5).trans rfl, (blk_cell BK438.out 6).trans rfl⟩ (fun hHeld => ?_); clear hK K; refine norm_ (a' := ?_) ?_ ?_
                                                                        rotate_left
                                                                        · show Act.put _ (some 105) _ = _
                                                                          simp only [Act.put, List.setIfInBounds_toArray, List.set_cons_zero, List.set_cons_succ, i64_w, i32_w]
                                                                          rfl
                                                                        refine pureA (i := 12) (N := some 106) #[true, true, true, true, true, true, true, true, true, true, true, true, true, false, true, true, true, false, false, false, false] rfl rfl HT_.out (by kernel_rfl) ?_; refine pureA (i := 13) (N := some 107) #[true, true, true, true, true, true, true, true, true, true, true, true, true, true, true, true, true, false, false, false, false] rfl rfl HT_.out (by kernel_rfl) ?_; refine one_ (i := 17) (N := some 111) #[true, true, true, true, true, true, true, true, true, true, true, true, true, true, true, true, true, true, false, false, false] rfl rfl (one_of HT_.out (by kernel_rfl)) (by decide) (fun K hK => ?_); refine goes_ Tryd.func22 (by kernel_rfl) rfl #[.int .i64 ((rd_T46 l0_5 x6_3).f4.f1)] (by rfl) rfl rfl (by (try simp only [List.map_toArray, List.map_cons, List.map_nil]); first | done | rfl | (simp only [List.length_drop, List.length_take]; rfl)) ?_
                                                                        with_reducible refine (garmentref34_number.calls kj48 ((rd_T46 l0_5 x6_3).f4.f1) t444 _ A70.out).mono ?_
                                                                        rintro e w76 ⟨rfl, hb⟩
                                                                        refine ⟨_, rfl, ?_⟩; replace BK429 := Aside0.mk (blk_below (bu BK429.out) hb); replace BK438 := Aside0.mk (blk_below (bu BK438.out) hb); replace HB := Aside0.mk (below_step (be HB.out) hb)
                                                                        (try clear hb)
                                                                        (try clear hb2)
                                                                        (try clear hk)
                                                                        (try clear hi)
                                                                        refine hK.out _ _ ⟨(blk_cell BK438.out 0).trans rfl, (blk_cell BK438.out 1).trans rfl, (blk_cell BK438.out 2).trans rfl, (blk_cell BK438.out 3).trans rfl, (blk_cell BK438.out 4).trans rfl, (blk_cell BK438.out 5).trans rfl, (blk_cell BK438.out 6).trans rfl⟩ (fun hHeld => ?_); clear hK K; refine norm_ (a' := ?_) ?_ ?_
                                                                        rotate_left
                                                                        · show Act.put _ (some 111) _ = _
                                                                          simp only [Act.put, List.setIfInBounds_toArray, List.set_cons_zero, List.set_cons_succ, i64_w, i32_w]
                                                                          rfl
                                                                        refine pureA (i := 18) (N := some 112) #[true, true, true, true, true, true, true, true, true, true, true, true, true, true, true, true, true, true, true, false, false] rfl rfl HT_.out (by kernel_rfl) ?_; refine pureA (i := 19) (N := some 113) #[true, true, true, true, true, true, true, true, true, true, true, true, true, true, true, true, true, true, true, true, false] rfl rfl HT_.out (by kernel_rfl) ?_; refine pureA (i := 20) (N := some 4) #[true, true, true, true, true, true, true, true, true, true, true, true, true, true, true, true, true, true, true, true, true] rfl rfl HT_.out (by kernel_rfl) ?_; refine done_ (done_of HT_.out (by kernel_rfl)) ?_
                                                                        try go_wp2
                                                                        go_roundg kj48
                                                                        case measure => have := HJ1.out; have := HK2.out; have := HK3.out; have := HJ48.out; omega
                                                                        case rel => exact ⟨(((((((x4_48 ++ (⟨#[32]⟩ : ByteArray)) ++ t442) ++ (⟨#[32]⟩ : ByteArray)) ++ t443) ++ (⟨#[32]⟩ : ByteArray)) ++ t444) ++ (⟨#[10]⟩ : ByteArray)), (wrap64 (x6_3 + 1)), (by first | rfl | (simp; done) | (simp [*]; done)), (by first | rfl | (simp; done) | (simp [*]; done)), (by first | exact H' | (rw [← Nbq60.out]; exact H')), ⟨by have := HJ1.out; have := HK2.out; have := HK3.out; have := HJ48.out; omega⟩, ⟨bu (BK429.out)⟩, ⟨be HB.out⟩⟩
                                                                      · rw [if_neg c72] at H; exact absurd H (by simp)
                                                                    · rw [if_neg c71] at H; exact absurd H (by simp)
                                                                  · rw [if_neg c69] at H; exact absurd H (by simp)
                                                                · rw [if_neg c68] at H; exact absurd H (by simp)
                                                              · rw [if_neg c66] at H; exact absurd H (by simp)
                                                            · rw [if_neg c65] at H; exact absurd H (by simp)
                                                          · rw [if_neg c63] at H; exact absurd H (by simp)
                                                    · rw [if_neg c48] at H; exact absurd H (by simp)
                                                  · rw [if_neg c46] at H; exact absurd H (by simp)
                                                · rw [if_neg c45] at H; exact absurd H (by simp)
                                              · rw [if_neg c43] at H; exact absurd H (by simp)
                                            · rw [if_neg c42] at H; exact absurd H (by simp)
                                          · rw [if_neg c40] at H; exact absurd H (by simp)
                                        · rw [if_neg c39] at H; exact absurd H (by simp)
                                      · rw [if_neg c38] at H; have c38b0 : decide (x6_3 < (l0_5.length : Int)) = false := decide_eq_false c38; clear c38; simp only [Option.some.injEq, Prod.mk.injEq] at H; obtain ⟨rfl, rfl⟩ := H; have hcz77_0 := bc BK429.out 0 (.int .i64 a0_0) rfl; have hcz77_1 := bc BK429.out 1 (.int .i64 a0_1) rfl; have hcz77_2 := bc BK429.out 2 (.int .i64 a0_2) rfl; have hcz77_3 := bc BK429.out 3 (.int .i64 a0_3) rfl; have hcz77_4 := bc BK429.out 4 (.slice A0_4 l0_4.length c0_4) rfl; have hcz77_5 := bc BK429.out 5 (.slice A0_5 l0_5.length c0_5) rfl; have hfz77_0 := blk_frozen BK429.out 0; have hfz77_1 := blk_frozen BK429.out 1; have hfz77_2 := blk_frozen BK429.out 2; have hfz77_3 := blk_frozen BK429.out 3; have hfz77_4 := blk_frozen BK429.out 4; have hfz77_5 := blk_frozen BK429.out 5
                                        go_wp2
                                        go_ret2
                                        exact ⟨by first | rfl | (simp [errW_none, errW_some] <;> rfl) | (simp [*, errW_none, errW_some] <;> rfl), be HB.out⟩
                                · rw [if_neg c36] at H; exact absurd H (by simp)
                        · rw [if_neg c21] at H; exact absurd H (by simp)
                      · rw [if_neg c20] at H; exact absurd H (by simp)
                    · rw [if_neg c18] at H; exact absurd H (by simp)
                  · rw [if_neg c17] at H; exact absurd H (by simp)
                · rw [if_neg c15] at H; exact absurd H (by simp)
              · rw [if_neg c14] at H; exact absurd H (by simp)
            · rw [if_neg c12] at H; exact absurd H (by simp)
          · rw [if_neg c11] at H; exact absurd H (by simp)
        · replace c9 := Bool.eq_false_iff.mpr c9; subst c9
          have H1 : (some ((⟨#[]⟩ : ByteArray), 3)) = some (r1, r2) := by rw [if_neg (show ¬ (false = true) by decide)] at H; exact H
          clear H; have H := H1; clear H1; simp only [Option.some.injEq, Prod.mk.injEq] at H; obtain ⟨rfl, rfl⟩ := H; have hcz78_0 := bc BK429.out 0 (.int .i64 a0_0) rfl; have hcz78_1 := bc BK429.out 1 (.int .i64 a0_1) rfl; have hcz78_2 := bc BK429.out 2 (.int .i64 a0_2) rfl; have hcz78_3 := bc BK429.out 3 (.int .i64 a0_3) rfl; have hcz78_4 := bc BK429.out 4 (.slice A0_4 l0_4.length c0_4) rfl; have hcz78_5 := bc BK429.out 5 (.slice A0_5 l0_5.length c0_5) rfl; have hfz78_0 := blk_frozen BK429.out 0; have hfz78_1 := blk_frozen BK429.out 1; have hfz78_2 := blk_frozen BK429.out 2; have hfz78_3 := blk_frozen BK429.out 3; have hfz78_4 := blk_frozen BK429.out 4; have hfz78_5 := blk_frozen BK429.out 5
          go_wp2_with (first | ((with_reducible refine gate_callee (f := 21) rfl ?_); refine goesA (some 19) rfl rfl Tryd.func21 (by kernel_rfl) rfl #[.agg #[.int .i64 a0_0, .int .i64 a0_1, .int .i64 a0_2, .int .i64 a0_3, .slice A0_4 l0_4.length c0_4, .slice A0_5 l0_5.length c0_5]] rfl ?_; (with_reducible refine (garmentref34_inRange.calls kj1 a0_0 a0_1 a0_2 a0_3 _ _ l0_4 _ _ l0_5 false _ ?side1 ?side2 ?side3 ?side4 A8.out).mono ?_); (case side1 => exact cu (Kd.C_below HR0_4.out HB.out)); (case side2 => exact HC0_4.out); (case side3 => exact cu (Kd.C_below HR0_5.out HB.out)); (case side4 => exact HC0_5.out); rintro e w79 ⟨rfl, hb⟩; refine ⟨_, rfl, ?_⟩; replace BK429 := Aside0.mk (blk_below (bu BK429.out) hb); replace HB := Aside0.mk (below_step (be HB.out) hb); (try clear hb)))
          go_ret2
          exact ⟨by first | rfl | (simp [errW_none, errW_some] <;> rfl) | (simp [*, errW_none, errW_some] <;> rfl), be HB.out⟩

end Go.Proofs.YtghnjnegcdbgnaaDoor.P
namespace Go.Proofs.YtghnjnegcdbgnaaDoor.P
open Go.RowKit Go.Proofs.YtghnjnegcdbgnaaDoorW.PrintWords Go.Proofs.YtghnjnegcdbgnaaDoorW.PrintLast Go.Proofs.YtghnjnegcdbgnaaDoorW.PrintMore Go.Proofs.YtghnjnegcdbgnaaDoorW.PrintAuto
attribute [local go_sem] max2_int min2_int max_two min_two max_three min_three max_four min_four   -- for this text's walks alone
set_option linter.unusedVariables false
set_option linter.unusedSimpArgs false

--IMPORT Derived.Test.YtghnjnegcdbgnaaDoorGL
def garmentlaw34_InterchangePrints.f (k : Nat) (a0_0 : Int) (a0_1 : Int) (a0_2 : Int) (a0_3 : Int) (l0_4 : List Int) (l0_5 : List (S46)) : Option (Bool) := (garmentlaw34_few.f a0_0 a0_1 a0_2 a0_3 l0_4 l0_5).bind fun t446 => (if t446 = true then ((interchange_Print.f k a0_0 a0_1 a0_2 a0_3 l0_4 l0_5).bind fun bt448 => ((garmentref34_Print.f k a0_0 a0_1 a0_2 a0_3 l0_4 l0_5).bind fun bt450 => (if bt448.1.toList = bt450.1.toList then (if bt448.2 = bt450.2 then ((garmentlaw34_awake.f k).bind fun t452 => (some t452)) else (some false)) else (some false)))) else ((garmentlaw34_awake.f k).bind fun t447 => (some t447)))
theorem garmentlaw34_InterchangePrints.mono : ∀ a0 a1 a2 a3 a4 a5 k, LeO (garmentlaw34_InterchangePrints.f k a0 a1 a2 a3 a4 a5) (garmentlaw34_InterchangePrints.f (k + 1) a0 a1 a2 a3 a4 a5) := by
 intro a0 a1 a2 a3 a4 a5 k
 unfold garmentlaw34_InterchangePrints.f
 repeat' first
  | (with_reducible exact garmentlaw34_awake.mono _)
  | (with_reducible exact garmentref34_Print.mono _ _ _ _ _ _ _)
  | (with_reducible exact interchange_Print.mono _ _ _ _ _ _ _)
  | (with_reducible exact LeO.refl _)
  | (with_reducible exact LeO.none _)
  | (with_reducible refine LeO.ite ?_ ?_)
  | (with_reducible refine LeO.bind ?_ (fun _ => ?_))
  | exact garmentlaw34_awake.mono _
  | exact garmentref34_Print.mono _ _ _ _ _ _ _
  | exact interchange_Print.mono _ _ _ _ _ _ _
  | exact LeO.none _
  | refine LeO.ite ?_ ?_
  | refine LeO.bind ?_ (fun _ => ?_)
set_option maxHeartbeats 8000000 in
set_option maxRecDepth 100000 in
theorem garmentlaw34_InterchangePrints.calls (k : Nat) (a0_0 : Int) (a0_1 : Int) (a0_2 : Int) (a0_3 : Int) (A0_4 : Option Addr) (c0_4 : Nat) (l0_4 : List Int) (A0_5 : Option Addr) (c0_5 : Nat) (l0_5 : List (S46)) (r : Bool) (w : World) (hr0_4 : Kd.C (Kd.int .i64) w A0_4 l0_4.length l0_4) (hc0_4 : l0_4.length ≤ c0_4) (hr0_5 : Kd.C k46 w A0_5 l0_5.length l0_5) (hc0_5 : l0_5.length ≤ c0_5) (h : garmentlaw34_InterchangePrints.f k a0_0 a0_1 a0_2 a0_3 l0_4 l0_5 = some r) (hG : Aside0 (GL w)) :
  Calls Tryd.prog 3 #[.agg #[.int .i64 a0_0, .int .i64 a0_1, .int .i64 a0_2, .int .i64 a0_3, .slice A0_4 l0_4.length c0_4, .slice A0_5 l0_5.length c0_5]] w fun e w' => e = .returned (.bool r) ∧ Below w.heap.size w w' := by
 have hu27 := Tryd.underlying27; have HR0_4 := Aside0.mk hr0_4; have HC0_4 := Aside0.mk hc0_4; clear hr0_4 hc0_4; have HR0_5 := Aside0.mk hr0_5; have HC0_5 := Aside0.mk hc0_5; clear hr0_5 hc0_5; have HB := Aside0.mk (Below.refl w.heap.size w); have H : ((garmentlaw34_few.f a0_0 a0_1 a0_2 a0_3 l0_4 l0_5).bind fun t446 => (if t446 = true then ((interchange_Print.f k a0_0 a0_1 a0_2 a0_3 l0_4 l0_5).bind fun bt448 => ((garmentref34_Print.f k a0_0 a0_1 a0_2 a0_3 l0_4 l0_5).bind fun bt450 => (if bt448.1.toList = bt450.1.toList then (if bt448.2 = bt450.2 then ((garmentlaw34_awake.f k).bind fun t452 => (some t452)) else (some false)) else (some false)))) else ((garmentlaw34_awake.f k).bind fun t447 => (some t447)))) = some r := h; clear h; replace H := Option.bind_eq_some_iff.mp H; obtain ⟨t446, A20, H⟩ := H; replace H : (if t446 = true then ((interchange_Print.f k a0_0 a0_1 a0_2 a0_3 l0_4 l0_5).bind fun bt448 => ((garmentref34_Print.f k a0_0 a0_1 a0_2 a0_3 l0_4 l0_5).bind fun bt450 => (if bt448.1.toList = bt450.1.toList then (if bt448.2 = bt450.2 then ((garmentlaw34_awake.f k).bind fun t452 => (some t452)) else (some false)) else (some false)))) else ((garmentlaw34_awake.f k).bind fun t447 => (some t447))) = some r := H; have A2 := Aside0.mk A20; clear A20
 by_cases c3 : t446 = true
 ·subst c3
  have H1 : ((interchange_Print.f k a0_0 a0_1 a0_2 a0_3 l0_4 l0_5).bind fun bt448 => ((garmentref34_Print.f k a0_0 a0_1 a0_2 a0_3 l0_4 l0_5).bind fun bt450 => (if bt448.1.toList = bt450.1.toList then (if bt448.2 = bt450.2 then ((garmentlaw34_awake.f k).bind fun t452 => (some t452)) else (some false)) else (some false)))) = some r := by rw [if_pos rfl] at H; exact H
  clear H; have H := H1; clear H1; replace H := Option.bind_eq_some_iff.mp H; obtain ⟨⟨t448, t449⟩, A40, H⟩ := H; replace H : ((garmentref34_Print.f k a0_0 a0_1 a0_2 a0_3 l0_4 l0_5).bind fun bt450 => (if t448.toList = bt450.1.toList then (if t449 = bt450.2 then ((garmentlaw34_awake.f k).bind fun t452 => (some t452)) else (some false)) else (some false))) = some r := H; have A4 := Aside0.mk A40; clear A40; replace H := Option.bind_eq_some_iff.mp H; obtain ⟨⟨t450, t451⟩, A50, H⟩ := H; replace H : (if t448.toList = t450.toList then (if t449 = t451 then ((garmentlaw34_awake.f k).bind fun t452 => (some t452)) else (some false)) else (some false)) = some r := H; have A5 := Aside0.mk A50; clear A50
  by_cases c6 : t448.toList = t450.toList
  ·rw [if_pos c6] at H; have c6b0 : (t448.toList == t450.toList) = true := beq_iff_eq.mpr c6; have c6b1 : (t448.toList != t450.toList) = false := bne_eq_false_iff_eq.mpr c6; clear c6
   by_cases c7 : t449 = t451
   ·rw [if_pos c7] at H; have c7b0 : (t449 == t451) = true := beq_iff_eq.mpr c7; have c7b1 : (t449 != t451) = false := bne_eq_false_iff_eq.mpr c7; clear c7; replace H := Option.bind_eq_some_iff.mp H; obtain ⟨t452, A80, H⟩ := H; replace H : (some t452) = some r := H; have A8 := Aside0.mk A80; clear A80; obtain rfl := Option.some.inj H
    go_enter Tryd.func3, Tryd.ntmps3
    go_wp2_with (first | ((with_reducible refine gate_dst (N := 1) rfl ?_); refine box_event ?hg (N := 1) ?hd (cs := #[.int .i64 a0_0, .int .i64 a0_1, .int .i64 a0_2, .int .i64 a0_3, .slice A0_4 l0_4.length c0_4, .slice A0_5 l0_5.length c0_5]) (t := 27) ?hr ?_; (case hd => rfl); (case hg => rfl); (case hr => first | (go_simp; done) | (go_simp; rfl)); intro gb445 hg w9 hbox hb; have BK445 := Aside0.mk (hbox); have GW445 := Aside0.mk ((by rw [hg]; exact (below_size (be HB.out)) : w.heap.size ≤ gb445)); have GE445 := Aside0.mk ((by rw [hg]; exact (below_size (be HB.out)) : w.heap.size ≤ gb445)); replace HB := Aside0.mk (below_step (be HB.out) hb); clear hb hbox hg; have hcz10_0 := bc BK445.out 0 (.int .i64 a0_0) rfl; have hcz10_1 := bc BK445.out 1 (.int .i64 a0_1) rfl; have hcz10_2 := bc BK445.out 2 (.int .i64 a0_2) rfl; have hcz10_3 := bc BK445.out 3 (.int .i64 a0_3) rfl; have hcz10_4 := bc BK445.out 4 (.slice A0_4 l0_4.length c0_4) rfl; have hcz10_5 := bc BK445.out 5 (.slice A0_5 l0_5.length c0_5) rfl; have hfz10_0 := blk_frozen BK445.out 0; have hfz10_1 := blk_frozen BK445.out 1; have hfz10_2 := blk_frozen BK445.out 2; have hfz10_3 := blk_frozen BK445.out 3; have hfz10_4 := blk_frozen BK445.out 4; have hfz10_5 := blk_frozen BK445.out 5) | ((with_reducible refine gate_callee (f := 8) rfl ?_); refine goesA (some 8) rfl rfl Tryd.func8 (by kernel_rfl) rfl #[.agg #[.int .i64 a0_0, .int .i64 a0_1, .int .i64 a0_2, .int .i64 a0_3, .slice A0_4 l0_4.length c0_4, .slice A0_5 l0_5.length c0_5]] rfl ?_; (with_reducible refine (garmentlaw34_few.calls a0_0 a0_1 a0_2 a0_3 _ _ l0_4 _ _ l0_5 true _ ?side1 ?side2 ?side3 ?side4 A2.out).mono ?_); (case side1 => exact cu (Kd.C_below HR0_4.out HB.out)); (case side2 => exact HC0_4.out); (case side3 => exact cu (Kd.C_below HR0_5.out HB.out)); (case side4 => exact HC0_5.out); rintro e w11 ⟨rfl, hb⟩; refine ⟨_, rfl, ?_⟩; replace BK445 := Aside0.mk (blk_below (bu BK445.out) hb); replace HB := Aside0.mk (below_step (be HB.out) hb); (try clear hb); have hcz12_0 := bc BK445.out 0 (.int .i64 a0_0) rfl; have hcz12_1 := bc BK445.out 1 (.int .i64 a0_1) rfl; have hcz12_2 := bc BK445.out 2 (.int .i64 a0_2) rfl; have hcz12_3 := bc BK445.out 3 (.int .i64 a0_3) rfl; have hcz12_4 := bc BK445.out 4 (.slice A0_4 l0_4.length c0_4) rfl; have hcz12_5 := bc BK445.out 5 (.slice A0_5 l0_5.length c0_5) rfl; have hfz12_0 := blk_frozen BK445.out 0; have hfz12_1 := blk_frozen BK445.out 1; have hfz12_2 := blk_frozen BK445.out 2; have hfz12_3 := blk_frozen BK445.out 3; have hfz12_4 := blk_frozen BK445.out 4; have hfz12_5 := blk_frozen BK445.out 5) | ((with_reducible refine gate_callee (f := 10) rfl ?_); refine goesA (some 13) rfl rfl Tryd.func10 (by kernel_rfl) rfl #[.agg #[.int .i64 a0_0, .int .i64 a0_1, .int .i64 a0_2, .int .i64 a0_3, .slice A0_4 l0_4.length c0_4, .slice A0_5 l0_5.length c0_5]] rfl ?_; (with_reducible refine (interchange_Print.calls k a0_0 a0_1 a0_2 a0_3 _ _ l0_4 _ _ l0_5 t448 t449 _ ?side1 ?side2 ?side3 ?side4 A4.out (by first | exact Aside0.mk (GL.below hG.out (be HB.out)) | exact hG)).mono ?_); (case side1 => exact cu (Kd.C_below HR0_4.out HB.out)); (case side2 => exact HC0_4.out); (case side3 => exact cu (Kd.C_below HR0_5.out HB.out)); (case side4 => exact HC0_5.out); rintro e w13 ⟨rfl, hb⟩; refine ⟨_, rfl, ?_⟩; replace BK445 := Aside0.mk (blk_below (bu BK445.out) hb); replace HB := Aside0.mk (below_step (be HB.out) hb); (try clear hb); have hcz14_0 := bc BK445.out 0 (.int .i64 a0_0) rfl; have hcz14_1 := bc BK445.out 1 (.int .i64 a0_1) rfl; have hcz14_2 := bc BK445.out 2 (.int .i64 a0_2) rfl; have hcz14_3 := bc BK445.out 3 (.int .i64 a0_3) rfl; have hcz14_4 := bc BK445.out 4 (.slice A0_4 l0_4.length c0_4) rfl; have hcz14_5 := bc BK445.out 5 (.slice A0_5 l0_5.length c0_5) rfl; have hfz14_0 := blk_frozen BK445.out 0; have hfz14_1 := blk_frozen BK445.out 1; have hfz14_2 := blk_frozen BK445.out 2; have hfz14_3 := blk_frozen BK445.out 3; have hfz14_4 := blk_frozen BK445.out 4; have hfz14_5 := blk_frozen BK445.out 5) | ((with_reducible refine gate_callee (f := 11) rfl ?_); refine goesA (some 18) rfl rfl Tryd.func11 (by kernel_rfl) rfl #[.agg #[.int .i64 a0_0, .int .i64 a0_1, .int .i64 a0_2, .int .i64 a0_3, .slice A0_4 l0_4.length c0_4, .slice A0_5 l0_5.length c0_5]] rfl ?_; (with_reducible refine (garmentref34_Print.calls k a0_0 a0_1 a0_2 a0_3 _ _ l0_4 _ _ l0_5 t450 t451 _ ?side1 ?side2 ?side3 ?side4 A5.out).mono ?_); (case side1 => exact cu (Kd.C_below HR0_4.out HB.out)); (case side2 => exact HC0_4.out); (case side3 => exact cu (Kd.C_below HR0_5.out HB.out)); (case side4 => exact HC0_5.out); rintro e w15 ⟨rfl, hb⟩; refine ⟨_, rfl, ?_⟩; replace BK445 := Aside0.mk (blk_below (bu BK445.out) hb); replace HB := Aside0.mk (below_step (be HB.out) hb); (try clear hb)) | (go_at_call 9; (with_reducible refine (garmentlaw34_awake.calls k  t452 _ A8.out (by first | exact Aside0.mk (GL.below hG.out (be HB.out)) | exact hG)).mono ?_); rintro e w16 ⟨rfl, hb⟩; replace BK445 := Aside0.mk (blk_below (bu BK445.out) hb); replace HB := Aside0.mk (below_step (be HB.out) hb); (try clear hb)))
    go_ret
    exact ⟨by first | rfl | (simp [errW_none, errW_some] <;> rfl) | (simp [*, errW_none, errW_some] <;> rfl), be HB.out⟩
   ·rw [if_neg c7] at H; have c7b0 : (t449 == t451) = false := beq_eq_false_iff_ne.mpr c7; have c7b1 : (t449 != t451) = true := bne_iff_ne.mpr c7; obtain rfl := Option.some.inj H
    go_enter Tryd.func3, Tryd.ntmps3
    go_wp2_with (first | ((with_reducible refine gate_dst (N := 1) rfl ?_); refine box_event ?hg (N := 1) ?hd (cs := #[.int .i64 a0_0, .int .i64 a0_1, .int .i64 a0_2, .int .i64 a0_3, .slice A0_4 l0_4.length c0_4, .slice A0_5 l0_5.length c0_5]) (t := 27) ?hr ?_; (case hd => rfl); (case hg => rfl); (case hr => first | (go_simp; done) | (go_simp; rfl)); intro gb445 hg w17 hbox hb; have BK445 := Aside0.mk (hbox); have GW445 := Aside0.mk ((by rw [hg]; exact (below_size (be HB.out)) : w.heap.size ≤ gb445)); have GE445 := Aside0.mk ((by rw [hg]; exact (below_size (be HB.out)) : w.heap.size ≤ gb445)); replace HB := Aside0.mk (below_step (be HB.out) hb); clear hb hbox hg; have hcz18_0 := bc BK445.out 0 (.int .i64 a0_0) rfl; have hcz18_1 := bc BK445.out 1 (.int .i64 a0_1) rfl; have hcz18_2 := bc BK445.out 2 (.int .i64 a0_2) rfl; have hcz18_3 := bc BK445.out 3 (.int .i64 a0_3) rfl; have hcz18_4 := bc BK445.out 4 (.slice A0_4 l0_4.length c0_4) rfl; have hcz18_5 := bc BK445.out 5 (.slice A0_5 l0_5.length c0_5) rfl; have hfz18_0 := blk_frozen BK445.out 0; have hfz18_1 := blk_frozen BK445.out 1; have hfz18_2 := blk_frozen BK445.out 2; have hfz18_3 := blk_frozen BK445.out 3; have hfz18_4 := blk_frozen BK445.out 4; have hfz18_5 := blk_frozen BK445.out 5) | ((with_reducible refine gate_callee (f := 8) rfl ?_); refine goesA (some 8) rfl rfl Tryd.func8 (by kernel_rfl) rfl #[.agg #[.int .i64 a0_0, .int .i64 a0_1, .int .i64 a0_2, .int .i64 a0_3, .slice A0_4 l0_4.length c0_4, .slice A0_5 l0_5.length c0_5]] rfl ?_; (with_reducible refine (garmentlaw34_few.calls a0_0 a0_1 a0_2 a0_3 _ _ l0_4 _ _ l0_5 true _ ?side1 ?side2 ?side3 ?side4 A2.out).mono ?_); (case side1 => exact cu (Kd.C_below HR0_4.out HB.out)); (case side2 => exact HC0_4.out); (case side3 => exact cu (Kd.C_below HR0_5.out HB.out)); (case side4 => exact HC0_5.out); rintro e w19 ⟨rfl, hb⟩; refine ⟨_, rfl, ?_⟩; replace BK445 := Aside0.mk (blk_below (bu BK445.out) hb); replace HB := Aside0.mk (below_step (be HB.out) hb); (try clear hb); have hcz20_0 := bc BK445.out 0 (.int .i64 a0_0) rfl; have hcz20_1 := bc BK445.out 1 (.int .i64 a0_1) rfl; have hcz20_2 := bc BK445.out 2 (.int .i64 a0_2) rfl; have hcz20_3 := bc BK445.out 3 (.int .i64 a0_3) rfl; have hcz20_4 := bc BK445.out 4 (.slice A0_4 l0_4.length c0_4) rfl; have hcz20_5 := bc BK445.out 5 (.slice A0_5 l0_5.length c0_5) rfl; have hfz20_0 := blk_frozen BK445.out 0; have hfz20_1 := blk_frozen BK445.out 1; have hfz20_2 := blk_frozen BK445.out 2; have hfz20_3 := blk_frozen BK445.out 3; have hfz20_4 := blk_frozen BK445.out 4; have hfz20_5 := blk_frozen BK445.out 5) | ((with_reducible refine gate_callee (f := 10) rfl ?_); refine goesA (some 13) rfl rfl Tryd.func10 (by kernel_rfl) rfl #[.agg #[.int .i64 a0_0, .int .i64 a0_1, .int .i64 a0_2, .int .i64 a0_3, .slice A0_4 l0_4.length c0_4, .slice A0_5 l0_5.length c0_5]] rfl ?_; (with_reducible refine (interchange_Print.calls k a0_0 a0_1 a0_2 a0_3 _ _ l0_4 _ _ l0_5 t448 t449 _ ?side1 ?side2 ?side3 ?side4 A4.out (by first | exact Aside0.mk (GL.below hG.out (be HB.out)) | exact hG)).mono ?_); (case side1 => exact cu (Kd.C_below HR0_4.out HB.out)); (case side2 => exact HC0_4.out); (case side3 => exact cu (Kd.C_below HR0_5.out HB.out)); (case side4 => exact HC0_5.out); rintro e w21 ⟨rfl, hb⟩; refine ⟨_, rfl, ?_⟩; replace BK445 := Aside0.mk (blk_below (bu BK445.out) hb); replace HB := Aside0.mk (below_step (be HB.out) hb); (try clear hb); have hcz22_0 := bc BK445.out 0 (.int .i64 a0_0) rfl; have hcz22_1 := bc BK445.out 1 (.int .i64 a0_1) rfl; have hcz22_2 := bc BK445.out 2 (.int .i64 a0_2) rfl; have hcz22_3 := bc BK445.out 3 (.int .i64 a0_3) rfl; have hcz22_4 := bc BK445.out 4 (.slice A0_4 l0_4.length c0_4) rfl; have hcz22_5 := bc BK445.out 5 (.slice A0_5 l0_5.length c0_5) rfl; have hfz22_0 := blk_frozen BK445.out 0; have hfz22_1 := blk_frozen BK445.out 1; have hfz22_2 := blk_frozen BK445.out 2; have hfz22_3 := blk_frozen BK445.out 3; have hfz22_4 := blk_frozen BK445.out 4; have hfz22_5 := blk_frozen BK445.out 5) | ((with_reducible refine gate_callee (f := 11) rfl ?_); refine goesA (some 18) rfl rfl Tryd.func11 (by kernel_rfl) rfl #[.agg #[.int .i64 a0_0, .int .i64 a0_1, .int .i64 a0_2, .int .i64 a0_3, .slice A0_4 l0_4.length c0_4, .slice A0_5 l0_5.length c0_5]] rfl ?_; (with_reducible refine (garmentref34_Print.calls k a0_0 a0_1 a0_2 a0_3 _ _ l0_4 _ _ l0_5 t450 t451 _ ?side1 ?side2 ?side3 ?side4 A5.out).mono ?_); (case side1 => exact cu (Kd.C_below HR0_4.out HB.out)); (case side2 => exact HC0_4.out); (case side3 => exact cu (Kd.C_below HR0_5.out HB.out)); (case side4 => exact HC0_5.out); rintro e w23 ⟨rfl, hb⟩; refine ⟨_, rfl, ?_⟩; replace BK445 := Aside0.mk (blk_below (bu BK445.out) hb); replace HB := Aside0.mk (below_step (be HB.out) hb); (try clear hb)))
    go_ret
    exact ⟨by first | rfl | (simp [errW_none, errW_some] <;> rfl) | (simp [*, errW_none, errW_some] <;> rfl), be HB.out⟩
  ·rw [if_neg c6] at H; have c6b0 : (t448.toList == t450.toList) = false := beq_eq_false_iff_ne.mpr c6; have c6b1 : (t448.toList != t450.toList) = true := bne_iff_ne.mpr c6; obtain rfl := Option.some.inj H
   go_enter Tryd.func3, Tryd.ntmps3
   go_wp2_with (first | ((with_reducible refine gate_dst (N := 1) rfl ?_); refine box_event ?hg (N := 1) ?hd (cs := #[.int .i64 a0_0, .int .i64 a0_1, .int .i64 a0_2, .int .i64 a0_3, .slice A0_4 l0_4.length c0_4, .slice A0_5 l0_5.length c0_5]) (t := 27) ?hr ?_; (case hd => rfl); (case hg => rfl); (case hr => first | (go_simp; done) | (go_simp; rfl)); intro gb445 hg w24 hbox hb; have BK445 := Aside0.mk (hbox); have GW445 := Aside0.mk ((by rw [hg]; exact (below_size (be HB.out)) : w.heap.size ≤ gb445)); have GE445 := Aside0.mk ((by rw [hg]; exact (below_size (be HB.out)) : w.heap.size ≤ gb445)); replace HB := Aside0.mk (below_step (be HB.out) hb); clear hb hbox hg; have hcz25_0 := bc BK445.out 0 (.int .i64 a0_0) rfl; have hcz25_1 := bc BK445.out 1 (.int .i64 a0_1) rfl; have hcz25_2 := bc BK445.out 2 (.int .i64 a0_2) rfl; have hcz25_3 := bc BK445.out 3 (.int .i64 a0_3) rfl; have hcz25_4 := bc BK445.out 4 (.slice A0_4 l0_4.length c0_4) rfl; have hcz25_5 := bc BK445.out 5 (.slice A0_5 l0_5.length c0_5) rfl; have hfz25_0 := blk_frozen BK445.out 0; have hfz25_1 := blk_frozen BK445.out 1; have hfz25_2 := blk_frozen BK445.out 2; have hfz25_3 := blk_frozen BK445.out 3; have hfz25_4 := blk_frozen BK445.out 4; have hfz25_5 := blk_frozen BK445.out 5) | ((with_reducible refine gate_callee (f := 8) rfl ?_); refine goesA (some 8) rfl rfl Tryd.func8 (by kernel_rfl) rfl #[.agg #[.int .i64 a0_0, .int .i64 a0_1, .int .i64 a0_2, .int .i64 a0_3, .slice A0_4 l0_4.length c0_4, .slice A0_5 l0_5.length c0_5]] rfl ?_; (with_reducible refine (garmentlaw34_few.calls a0_0 a0_1 a0_2 a0_3 _ _ l0_4 _ _ l0_5 true _ ?side1 ?side2 ?side3 ?side4 A2.out).mono ?_); (case side1 => exact cu (Kd.C_below HR0_4.out HB.out)); (case side2 => exact HC0_4.out); (case side3 => exact cu (Kd.C_below HR0_5.out HB.out)); (case side4 => exact HC0_5.out); rintro e w26 ⟨rfl, hb⟩; refine ⟨_, rfl, ?_⟩; replace BK445 := Aside0.mk (blk_below (bu BK445.out) hb); replace HB := Aside0.mk (below_step (be HB.out) hb); (try clear hb); have hcz27_0 := bc BK445.out 0 (.int .i64 a0_0) rfl; have hcz27_1 := bc BK445.out 1 (.int .i64 a0_1) rfl; have hcz27_2 := bc BK445.out 2 (.int .i64 a0_2) rfl; have hcz27_3 := bc BK445.out 3 (.int .i64 a0_3) rfl; have hcz27_4 := bc BK445.out 4 (.slice A0_4 l0_4.length c0_4) rfl; have hcz27_5 := bc BK445.out 5 (.slice A0_5 l0_5.length c0_5) rfl; have hfz27_0 := blk_frozen BK445.out 0; have hfz27_1 := blk_frozen BK445.out 1; have hfz27_2 := blk_frozen BK445.out 2; have hfz27_3 := blk_frozen BK445.out 3; have hfz27_4 := blk_frozen BK445.out 4; have hfz27_5 := blk_frozen BK445.out 5) | ((with_reducible refine gate_callee (f := 10) rfl ?_); refine goesA (some 13) rfl rfl Tryd.func10 (by kernel_rfl) rfl #[.agg #[.int .i64 a0_0, .int .i64 a0_1, .int .i64 a0_2, .int .i64 a0_3, .slice A0_4 l0_4.length c0_4, .slice A0_5 l0_5.length c0_5]] rfl ?_; (with_reducible refine (interchange_Print.calls k a0_0 a0_1 a0_2 a0_3 _ _ l0_4 _ _ l0_5 t448 t449 _ ?side1 ?side2 ?side3 ?side4 A4.out (by first | exact Aside0.mk (GL.below hG.out (be HB.out)) | exact hG)).mono ?_); (case side1 => exact cu (Kd.C_below HR0_4.out HB.out)); (case side2 => exact HC0_4.out); (case side3 => exact cu (Kd.C_below HR0_5.out HB.out)); (case side4 => exact HC0_5.out); rintro e w28 ⟨rfl, hb⟩; refine ⟨_, rfl, ?_⟩; replace BK445 := Aside0.mk (blk_below (bu BK445.out) hb); replace HB := Aside0.mk (below_step (be HB.out) hb); (try clear hb); have hcz29_0 := bc BK445.out 0 (.int .i64 a0_0) rfl; have hcz29_1 := bc BK445.out 1 (.int .i64 a0_1) rfl; have hcz29_2 := bc BK445.out 2 (.int .i64 a0_2) rfl; have hcz29_3 := bc BK445.out 3 (.int .i64 a0_3) rfl; have hcz29_4 := bc BK445.out 4 (.slice A0_4 l0_4.length c0_4) rfl; have hcz29_5 := bc BK445.out 5 (.slice A0_5 l0_5.length c0_5) rfl; have hfz29_0 := blk_frozen BK445.out 0; have hfz29_1 := blk_frozen BK445.out 1; have hfz29_2 := blk_frozen BK445.out 2; have hfz29_3 := blk_frozen BK445.out 3; have hfz29_4 := blk_frozen BK445.out 4; have hfz29_5 := blk_frozen BK445.out 5) | ((with_reducible refine gate_callee (f := 11) rfl ?_); refine goesA (some 18) rfl rfl Tryd.func11 (by kernel_rfl) rfl #[.agg #[.int .i64 a0_0, .int .i64 a0_1, .int .i64 a0_2, .int .i64 a0_3, .slice A0_4 l0_4.length c0_4, .slice A0_5 l0_5.length c0_5]] rfl ?_; (with_reducible refine (garmentref34_Print.calls k a0_0 a0_1 a0_2 a0_3 _ _ l0_4 _ _ l0_5 t450 t451 _ ?side1 ?side2 ?side3 ?side4 A5.out).mono ?_); (case side1 => exact cu (Kd.C_below HR0_4.out HB.out)); (case side2 => exact HC0_4.out); (case side3 => exact cu (Kd.C_below HR0_5.out HB.out)); (case side4 => exact HC0_5.out); rintro e w30 ⟨rfl, hb⟩; refine ⟨_, rfl, ?_⟩; replace BK445 := Aside0.mk (blk_below (bu BK445.out) hb); replace HB := Aside0.mk (below_step (be HB.out) hb); (try clear hb)))
   go_ret
   exact ⟨by first | rfl | (simp [errW_none, errW_some] <;> rfl) | (simp [*, errW_none, errW_some] <;> rfl), be HB.out⟩
 ·replace c3 := Bool.eq_false_iff.mpr c3; subst c3
  have H1 : ((garmentlaw34_awake.f k).bind fun t447 => (some t447)) = some r := by rw [if_neg (show ¬ (false = true) by decide)] at H; exact H
  clear H; have H := H1; clear H1; replace H := Option.bind_eq_some_iff.mp H; obtain ⟨t447, A310, H⟩ := H; replace H : (some t447) = some r := H; have A31 := Aside0.mk A310; clear A310; obtain rfl := Option.some.inj H
  go_enter Tryd.func3, Tryd.ntmps3
  go_wp2_with (first | ((with_reducible refine gate_dst (N := 1) rfl ?_); refine box_event ?hg (N := 1) ?hd (cs := #[.int .i64 a0_0, .int .i64 a0_1, .int .i64 a0_2, .int .i64 a0_3, .slice A0_4 l0_4.length c0_4, .slice A0_5 l0_5.length c0_5]) (t := 27) ?hr ?_; (case hd => rfl); (case hg => rfl); (case hr => first | (go_simp; done) | (go_simp; rfl)); intro gb445 hg w32 hbox hb; have BK445 := Aside0.mk (hbox); have GW445 := Aside0.mk ((by rw [hg]; exact (below_size (be HB.out)) : w.heap.size ≤ gb445)); have GE445 := Aside0.mk ((by rw [hg]; exact (below_size (be HB.out)) : w.heap.size ≤ gb445)); replace HB := Aside0.mk (below_step (be HB.out) hb); clear hb hbox hg; have hcz33_0 := bc BK445.out 0 (.int .i64 a0_0) rfl; have hcz33_1 := bc BK445.out 1 (.int .i64 a0_1) rfl; have hcz33_2 := bc BK445.out 2 (.int .i64 a0_2) rfl; have hcz33_3 := bc BK445.out 3 (.int .i64 a0_3) rfl; have hcz33_4 := bc BK445.out 4 (.slice A0_4 l0_4.length c0_4) rfl; have hcz33_5 := bc BK445.out 5 (.slice A0_5 l0_5.length c0_5) rfl; have hfz33_0 := blk_frozen BK445.out 0; have hfz33_1 := blk_frozen BK445.out 1; have hfz33_2 := blk_frozen BK445.out 2; have hfz33_3 := blk_frozen BK445.out 3; have hfz33_4 := blk_frozen BK445.out 4; have hfz33_5 := blk_frozen BK445.out 5) | ((with_reducible refine gate_callee (f := 8) rfl ?_); refine goesA (some 8) rfl rfl Tryd.func8 (by kernel_rfl) rfl #[.agg #[.int .i64 a0_0, .int .i64 a0_1, .int .i64 a0_2, .int .i64 a0_3, .slice A0_4 l0_4.length c0_4, .slice A0_5 l0_5.length c0_5]] rfl ?_; (with_reducible refine (garmentlaw34_few.calls a0_0 a0_1 a0_2 a0_3 _ _ l0_4 _ _ l0_5 false _ ?side1 ?side2 ?side3 ?side4 A2.out).mono ?_); (case side1 => exact cu (Kd.C_below HR0_4.out HB.out)); (case side2 => exact HC0_4.out); (case side3 => exact cu (Kd.C_below HR0_5.out HB.out)); (case side4 => exact HC0_5.out); rintro e w34 ⟨rfl, hb⟩; refine ⟨_, rfl, ?_⟩; replace BK445 := Aside0.mk (blk_below (bu BK445.out) hb); replace HB := Aside0.mk (below_step (be HB.out) hb); (try clear hb)) | ((with_reducible refine gate_callee (f := 9) rfl ?_); refine goesA (some 10) rfl rfl Tryd.func9 (by kernel_rfl) rfl #[] rfl ?_; (with_reducible refine (garmentlaw34_awake.calls k  t447 _ A31.out (by first | exact Aside0.mk (GL.below hG.out (be HB.out)) | exact hG)).mono ?_); rintro e w35 ⟨rfl, hb⟩; refine ⟨_, rfl, ?_⟩; replace BK445 := Aside0.mk (blk_below (bu BK445.out) hb); replace HB := Aside0.mk (below_step (be HB.out) hb); (try clear hb)))
  go_ret
  exact ⟨by first | rfl | (simp [errW_none, errW_some] <;> rfl) | (simp [*, errW_none, errW_some] <;> rfl), be HB.out⟩

end Go.Proofs.YtghnjnegcdbgnaaDoor.P
namespace Go.Proofs.YtghnjnegcdbgnaaDoor.P
open Go.RowKit Go.Proofs.YtghnjnegcdbgnaaDoorW.PrintWords Go.Proofs.YtghnjnegcdbgnaaDoorW.PrintLast Go.Proofs.YtghnjnegcdbgnaaDoorW.PrintMore Go.Proofs.YtghnjnegcdbgnaaDoorW.PrintAuto
attribute [local go_sem] max2_int min2_int max_two min_two max_three min_three max_four min_four   -- for this text's walks alone
set_option linter.unusedVariables false
set_option linter.unusedSimpArgs false

def garmentlaw34_lines.l0 : Nat → ByteArray → Int → Int → Option (Int)
 | 0, _, _, _ => none
 | k + 1, x0, x3, x4 => if x4 < (x0.size : Int) then (if 0 ≤ x4 then (if (bt x0 x4) = 10 then (garmentlaw34_lines.l0 k x0 (wrap64 (x3 + 1)) (wrap64 (x4 + 1))) else (garmentlaw34_lines.l0 k x0 x3 (wrap64 (x4 + 1)))) else (none)) else (some x3)
def garmentlaw34_lines.f (k : Nat) (a0 : ByteArray) : Option (Int) := garmentlaw34_lines.l0 k a0 0 0
theorem garmentlaw34_lines.mono_l : ∀ k, (∀ y0 y1 y2, LeO (garmentlaw34_lines.l0 k y0 y1 y2) (garmentlaw34_lines.l0 (k + 1) y0 y1 y2))
 | 0 => fun _ _ _ r h => by simp [garmentlaw34_lines.l0] at h
 | k + 1 => by
  have ih0 := garmentlaw34_lines.mono_l k
  ·intro y0 y1 y2
   unfold garmentlaw34_lines.l0
   repeat' first
   | (with_reducible exact ih0 _ _ _)
   | (with_reducible exact LeO.refl _)
   | (with_reducible exact LeO.none _)
   | (with_reducible refine LeO.ite ?_ ?_)
   | (with_reducible refine LeO.bind ?_ (fun _ => ?_))
   | exact ih0 _ _ _
   | exact LeO.none _
   | refine LeO.ite ?_ ?_
   | refine LeO.bind ?_ (fun _ => ?_)
theorem garmentlaw34_lines.mono : ∀ a0 k, LeO (garmentlaw34_lines.f k a0) (garmentlaw34_lines.f (k + 1) a0) := by
 intro a0 k; have ih0 := garmentlaw34_lines.mono_l k
 unfold garmentlaw34_lines.f
 repeat' first
  | (with_reducible exact ih0 _ _ _)
  | (with_reducible exact LeO.refl _)
  | (with_reducible exact LeO.none _)
  | (with_reducible refine LeO.ite ?_ ?_)
  | (with_reducible refine LeO.bind ?_ (fun _ => ?_))
  | exact ih0 _ _ _
  | exact LeO.none _
  | refine LeO.ite ?_ ?_
  | refine LeO.bind ?_ (fun _ => ?_)
set_option maxHeartbeats 8000000 in
set_option maxRecDepth 100000 in
theorem garmentlaw34_lines.calls (k : Nat) (a0 : ByteArray) (r : Int) (w : World) (h : garmentlaw34_lines.f k a0 = some r) :
  Calls Tryd.prog 14 #[.string a0] w fun e w' => e = .returned (.int .i64 r) ∧ Drawn0 w w' := by
 have H : (garmentlaw34_lines.l0 k a0 0 0) = some r := h; clear h; have H' := Aside0.mk H; clear H
 go_enter Tryd.func14, Tryd.ntmps14
 go_wp2
 go_loopg [3, 4] k (fun kq v3 v4 w' => ∃ (x3_1 : Int) (x4_1 : Int), v3 = .int .i64 x3_1 ∧ v4 = .int .i64 x4_1 ∧ Aside0 (garmentlaw34_lines.l0 kq a0 x3_1 x4_1 = some r) ∧ Aside0 (kq ≤ k) ∧ Drawn0 w w')
 case atStart => exact ⟨(0), (0), (by first | rfl | (simp; done) | (simp [*]; done)), (by first | rfl | (simp; done) | (simp [*]; done)), H', ⟨Nat.le_refl _⟩, by repeat (first | exact Drawn0.refl _ | apply Drawn0.step)⟩
 case round =>
  clear H'
  try clear c1
  obtain ⟨x3_1, x4_1, rfl, rfl, HA, HK1, ⟨m1, rfl⟩⟩ := hrel
  cases gk with
  | zero => exact absurd HA.out (by simp [garmentlaw34_lines.l0])
  | succ k1 =>
   have H := HA.out; clear HA; simp only [garmentlaw34_lines.l0] at H
   by_cases c2 : x4_1 < (a0.size : Int)
   ·rw [if_pos c2] at H; have c2b0 : decide (x4_1 < (a0.size : Int)) = true := decide_eq_true c2; clear c2
    by_cases c3 : 0 ≤ x4_1
    ·rw [if_pos c3] at H; have c3b0 : decide (0 ≤ x4_1) = true := decide_eq_true c3; clear c3
     by_cases c5 : (bt a0 x4_1) = 10
     ·rw [if_pos c5] at H; have c5b0 : ((bt a0 x4_1) == 10) = true := beq_iff_eq.mpr c5; have c5b1 : ((bt a0 x4_1) != 10) = false := bne_eq_false_iff_eq.mpr c5; clear c5; have H' := Aside0.mk H; clear H; have p4 : 0 ≤ (x4_1 : Int) := oda; have q4 : x4_1 < (a0.size : Int) := oda; have hx4 := bt_at a0 x4_1; replace p4 := eq_true p4; replace q4 := eq_true q4
      go_wp2
      go_roundg k1
      case measure => have := HK1.out; omega
      case rel => exact ⟨(wrap64 (x3_1 + 1)), (wrap64 (x4_1 + 1)), (by first | rfl | (simp; done) | (simp [*]; done)), (by first | rfl | (simp; done) | (simp [*]; done)), H', ⟨by have := HK1.out; omega⟩, by repeat (first | exact Drawn0.refl _ | apply Drawn0.step)⟩
     ·rw [if_neg c5] at H; have c5b0 : ((bt a0 x4_1) == 10) = false := beq_eq_false_iff_ne.mpr c5; have c5b1 : ((bt a0 x4_1) != 10) = true := bne_iff_ne.mpr c5; have H' := Aside0.mk H; clear H; have p4 : 0 ≤ (x4_1 : Int) := oda; have q4 : x4_1 < (a0.size : Int) := oda; have hx4 := bt_at a0 x4_1; replace p4 := eq_true p4; replace q4 := eq_true q4
      go_wp2
      go_roundg k1
      case measure => have := HK1.out; omega
      case rel => exact ⟨(x3_1), (wrap64 (x4_1 + 1)), (by first | rfl | (simp; done) | (simp [*]; done)), (by first | rfl | (simp; done) | (simp [*]; done)), H', ⟨by have := HK1.out; omega⟩, by repeat (first | exact Drawn0.refl _ | apply Drawn0.step)⟩
    ·rw [if_neg c3] at H; exact absurd H (by simp)
   ·rw [if_neg c2] at H; have c2b0 : decide (x4_1 < (a0.size : Int)) = false := decide_eq_false c2; clear c2; obtain rfl := Option.some.inj H
    go_wp2
    go_ret
    exact ⟨by first | rfl | (simp; done) | (simp [*]; done), by repeat (first | exact Drawn0.refl _ | apply Drawn0.step)⟩

end Go.Proofs.YtghnjnegcdbgnaaDoor.P
