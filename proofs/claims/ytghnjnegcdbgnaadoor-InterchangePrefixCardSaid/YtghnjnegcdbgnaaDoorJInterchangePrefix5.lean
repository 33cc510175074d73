/- The functions that the law reaches: what each computes, and that its code computes it. -/
import Derived.Test.YtghnjnegcdbgnaaDoorBP0
import Derived.Test.YtghnjnegcdbgnaaDoorBAuto
import Derived.Test.YtghnjnegcdbgnaaDoorJ1
import Derived.Test.YtghnjnegcdbgnaaDoorJ3
import Derived.Test.YtghnjnegcdbgnaaDoorBGL
namespace Go.Proofs.YtghnjnegcdbgnaaDoor.P
open Go.RowKit Go.Proofs.YtghnjnegcdbgnaaDoorW.PrintWords Go.Proofs.YtghnjnegcdbgnaaDoorW.PrintLast Go.Proofs.YtghnjnegcdbgnaaDoorW.PrintMore Go.Proofs.YtghnjnegcdbgnaaDoorW.PrintAuto
attribute [local go_sem] max2_int min2_int max_two min_two max_three min_three max_four min_four   -- for this text's walks alone
set_option linter.unusedVariables false
set_option linter.unusedSimpArgs false

--IMPORT Derived.Test.YtghnjnegcdbgnaaDoorGL
mutual
def garmentlaw34_InterchangePrefix.j0 : Nat → Int → ByteArray → Int → Bool → Int → Int → Int → Int → List Int → List (S46) → Option (Bool)
 | 0, _, _, _, _, _, _, _, _, _, _ => none
 | k + 1, x1, x5, x6, x29, x546000, x546001, x546002, x546003, x546004, x546005 => if x29 = true then (if x6 = 0 then ((garmentlaw34_awake.f k).bind fun t550 => (some t550)) else (if x5.toList = ([] : List UInt8) then ((garmentlaw34_awake.f k).bind fun t551 => (some t551)) else (some false))) else (if 0 ≤ x1 then (if x1 ≤ (x5.size : Int) then ((interchange_Parse.f k (x5.extract 0 (x1 : Int).toNat)).bind fun bt552 => ((garmentlaw34_lines.f k (x5.extract 0 (x1 : Int).toNat)).bind fun t565 => (if (x5.extract 0 (x1 : Int).toNat).toList = ([] : List UInt8) then (garmentlaw34_InterchangePrefix.j1 k bt552.2.2.2.2.2.2.1 bt552.2.2.2.2.2.2.2 t565 false x546000 x546001 x546002 x546003 x546004 x546005 bt552.1 bt552.2.1 bt552.2.2.1 bt552.2.2.2.1 bt552.2.2.2.2.1 bt552.2.2.2.2.2.1) else (if 0 ≤ (wrap64 (((x5.extract 0 (x1 : Int).toNat).size : Int) - 1)) then (if (wrap64 (((x5.extract 0 (x1 : Int).toNat).size : Int) - 1)) < ((x5.extract 0 (x1 : Int).toNat).size : Int) then (garmentlaw34_InterchangePrefix.j1 k bt552.2.2.2.2.2.2.1 bt552.2.2.2.2.2.2.2 t565 ((bt (x5.extract 0 (x1 : Int).toNat) (wrap64 (((x5.extract 0 (x1 : Int).toNat).size : Int) - 1))) != 10) x546000 x546001 x546002 x546003 x546004 x546005 bt552.1 bt552.2.1 bt552.2.2.1 bt552.2.2.2.1 bt552.2.2.2.2.1 bt552.2.2.2.2.2.1) else (none)) else (none))))) else (none)) else (none))
def garmentlaw34_InterchangePrefix.j1 : Nat → Int → Int → Int → Bool → Int → Int → Int → Int → List Int → List (S46) → Int → Int → Int → Int → List Int → List (S46) → Option (Bool)
 | 0, _, _, _, _, _, _, _, _, _, _, _, _, _, _, _, _ => none
 | k + 1, x9, x10, x11, x60, x546000, x546001, x546002, x546003, x546004, x546005, x565000, x565001, x565002, x565003, x565004, x565005 => if x60 = true then (if x9 = 2 then (if x10 = (wrap64 (x11 + 1)) then ((garmentlaw34_awake.f k).bind fun t566 => (some t566)) else (some false)) else (some false)) else (if x11 < 2 then (if x9 = 4 then (if x10 = (wrap64 (x11 + 1)) then ((garmentlaw34_awake.f k).bind fun t567 => (some t567)) else (some false)) else (some false)) else (if (wrap64 (x11 - 2)) > (x546005.length : Int) then (some false) else (if 0 ≤ (wrap64 (x11 - 2)) then (if (wrap64 (x11 - 2)) ≤ (x546005.length : Int) then (if x9 = 0 then (if x10 = 0 then ((garmentref34_Same.f k x565000 x565001 x565002 x565003 x565004 x565005 x546000 x546001 x546002 x546003 x546004 (x546005.take ((wrap64 (x11 - 2)) : Int).toNat)).bind fun t572 => (if t572 = true then ((garmentlaw34_awake.f k).bind fun t573 => (some t573)) else (some false))) else (some false)) else (some false)) else (none)) else (none))))
end
def garmentlaw34_InterchangePrefix.f (k : Nat) (a0_0 : Int) (a0_1 : Int) (a0_2 : Int) (a0_3 : Int) (l0_4 : List Int) (l0_5 : List (S46)) (a1 : Int) : Option (Bool) := (garmentlaw34_few.f a0_0 a0_1 a0_2 a0_3 l0_4 l0_5).bind fun t546 => (if t546 = true then ((interchange_Print.f k a0_0 a0_1 a0_2 a0_3 l0_4 l0_5).bind fun bt548 => (if bt548.2 = 0 then (garmentlaw34_InterchangePrefix.j0 k a1 bt548.1 bt548.2 (decide (a1 > (bt548.1.size : Int))) a0_0 a0_1 a0_2 a0_3 l0_4 l0_5) else (garmentlaw34_InterchangePrefix.j0 k a1 bt548.1 bt548.2 true a0_0 a0_1 a0_2 a0_3 l0_4 l0_5))) else ((garmentlaw34_awake.f k).bind fun t547 => (some t547)))
theorem garmentlaw34_InterchangePrefix.mono_l : ∀ k, (∀ y0 y1 y2 y3 y4 y5 y6 y7 y8 y9, LeO (garmentlaw34_InterchangePrefix.j0 k y0 y1 y2 y3 y4 y5 y6 y7 y8 y9) (garmentlaw34_InterchangePrefix.j0 (k + 1) y0 y1 y2 y3 y4 y5 y6 y7 y8 y9)) ∧ (∀ y0 y1 y2 y3 y4 y5 y6 y7 y8 y9 y10 y11 y12 y13 y14 y15, LeO (garmentlaw34_InterchangePrefix.j1 k y0 y1 y2 y3 y4 y5 y6 y7 y8 y9 y10 y11 y12 y13 y14 y15) (garmentlaw34_InterchangePrefix.j1 (k + 1) y0 y1 y2 y3 y4 y5 y6 y7 y8 y9 y10 y11 y12 y13 y14 y15))
 | 0 => ⟨fun _ _ _ _ _ _ _ _ _ _ r h => by simp [garmentlaw34_InterchangePrefix.j0] at h, fun _ _ _ _ _ _ _ _ _ _ _ _ _ _ _ _ r h => by simp [garmentlaw34_InterchangePrefix.j1] at h⟩
 | k + 1 => by
  obtain ⟨ih0, ih1⟩ := garmentlaw34_InterchangePrefix.mono_l k
  refine ⟨?_, ?_⟩
  ·intro y0 y1 y2 y3 y4 y5 y6 y7 y8 y9
   unfold garmentlaw34_InterchangePrefix.j0
   repeat' first
   | (with_reducible exact ih0 _ _ _ _ _ _ _ _ _ _)
   | (with_reducible exact ih1 _ _ _ _ _ _ _ _ _ _ _ _ _ _ _ _)
   | (with_reducible exact garmentlaw34_awake.mono _)
   | (with_reducible exact garmentlaw34_lines.mono _ _)
   | (with_reducible exact garmentref34_Same.mono _ _ _ _ _ _ _ _ _ _ _ _ _)
   | (with_reducible exact interchange_Parse.mono _ _)
   | (with_reducible exact interchange_Print.mono _ _ _ _ _ _ _)
   | (with_reducible exact LeO.refl _)
   | (with_reducible exact LeO.none _)
   | (with_reducible refine LeO.ite ?_ ?_)
   | (with_reducible refine LeO.bind ?_ (fun _ => ?_))
   | exact ih0 _ _ _ _ _ _ _ _ _ _
   | exact ih1 _ _ _ _ _ _ _ _ _ _ _ _ _ _ _ _
   | exact garmentlaw34_awake.mono _
   | exact garmentlaw34_lines.mono _ _
   | exact garmentref34_Same.mono _ _ _ _ _ _ _ _ _ _ _ _ _
   | exact interchange_Parse.mono _ _
   | exact interchange_Print.mono _ _ _ _ _ _ _
   | exact LeO.none _
   | refine LeO.ite ?_ ?_
   | refine LeO.bind ?_ (fun _ => ?_)
  ·intro y0 y1 y2 y3 y4 y5 y6 y7 y8 y9 y10 y11 y12 y13 y14 y15
   unfold garmentlaw34_InterchangePrefix.j1
   repeat' first
   | (with_reducible exact ih0 _ _ _ _ _ _ _ _ _ _)
   | (with_reducible exact ih1 _ _ _ _ _ _ _ _ _ _ _ _ _ _ _ _)
   | (with_reducible exact garmentlaw34_awake.mono _)
   | (with_reducible exact garmentlaw34_lines.mono _ _)
   | (with_reducible exact garmentref34_Same.mono _ _ _ _ _ _ _ _ _ _ _ _ _)
   | (with_reducible exact interchange_Parse.mono _ _)
   | (with_reducible exact interchange_Print.mono _ _ _ _ _ _ _)
   | (with_reducible exact LeO.refl _)
   | (with_reducible exact LeO.none _)
   | (with_reducible refine LeO.ite ?_ ?_)
   | (with_reducible refine LeO.bind ?_ (fun _ => ?_))
   | exact ih0 _ _ _ _ _ _ _ _ _ _
   | exact ih1 _ _ _ _ _ _ _ _ _ _ _ _ _ _ _ _
   | exact garmentlaw34_awake.mono _
   | exact garmentlaw34_lines.mono _ _
   | exact garmentref34_Same.mono _ _ _ _ _ _ _ _ _ _ _ _ _
   | exact interchange_Parse.mono _ _
   | exact interchange_Print.mono _ _ _ _ _ _ _
   | exact LeO.none _
   | refine LeO.ite ?_ ?_
   | refine LeO.bind ?_ (fun _ => ?_)
theorem garmentlaw34_InterchangePrefix.mono : ∀ a0 a1 a2 a3 a4 a5 a6 k, LeO (garmentlaw34_InterchangePrefix.f k a0 a1 a2 a3 a4 a5 a6) (garmentlaw34_InterchangePrefix.f (k + 1) a0 a1 a2 a3 a4 a5 a6) := by
 intro a0 a1 a2 a3 a4 a5 a6 k; obtain ⟨ih0, ih1⟩ := garmentlaw34_InterchangePrefix.mono_l k
 unfold garmentlaw34_InterchangePrefix.f
 repeat' first
  | (with_reducible exact ih0 _ _ _ _ _ _ _ _ _ _)
  | (with_reducible exact ih1 _ _ _ _ _ _ _ _ _ _ _ _ _ _ _ _)
  | (with_reducible exact garmentlaw34_awake.mono _)
  | (with_reducible exact garmentlaw34_lines.mono _ _)
  | (with_reducible exact garmentref34_Same.mono _ _ _ _ _ _ _ _ _ _ _ _ _)
  | (with_reducible exact interchange_Parse.mono _ _)
  | (with_reducible exact interchange_Print.mono _ _ _ _ _ _ _)
  | (with_reducible exact LeO.refl _)
  | (with_reducible exact LeO.none _)
  | (with_reducible refine LeO.ite ?_ ?_)
  | (with_reducible refine LeO.bind ?_ (fun _ => ?_))
  | exact ih0 _ _ _ _ _ _ _ _ _ _
  | exact ih1 _ _ _ _ _ _ _ _ _ _ _ _ _ _ _ _
  | exact garmentlaw34_awake.mono _
  | exact garmentlaw34_lines.mono _ _
  | exact garmentref34_Same.mono _ _ _ _ _ _ _ _ _ _ _ _ _
  | exact interchange_Parse.mono _ _
  | exact interchange_Print.mono _ _ _ _ _ _ _
  | exact LeO.none _
  | refine LeO.ite ?_ ?_
  | refine LeO.bind ?_ (fun _ => ?_)
set_option maxHeartbeats 8000000 in
set_option maxRecDepth 100000 in
theorem garmentlaw34_InterchangePrefix.calls (k : Nat) (a0_0 : Int) (a0_1 : Int) (a0_2 : Int) (a0_3 : Int) (A0_4 : Option Addr) (c0_4 : Nat) (l0_4 : List Int) (A0_5 : Option Addr) (c0_5 : Nat) (l0_5 : List (S46)) (a1 : Int) (r : Bool) (w : World) (hr0_4 : Kd.C (Kd.int .i64) w A0_4 l0_4.length l0_4) (hc0_4 : l0_4.length ≤ c0_4) (hr0_5 : Kd.C k46 w A0_5 l0_5.length l0_5) (hc0_5 : l0_5.length ≤ c0_5) (h : garmentlaw34_InterchangePrefix.f k a0_0 a0_1 a0_2 a0_3 l0_4 l0_5 a1 = some r) (hU : (0 ≤ a1 ∧ a1 ≤ 65535)) (hG : Aside0 (GL w)) :
  Calls Tryd.prog 7 #[.agg #[.int .i64 a0_0, .int .i64 a0_1, .int .i64 a0_2, .int .i64 a0_3, .slice A0_4 l0_4.length c0_4, .slice A0_5 l0_5.length c0_5], .int .u16 a1] w fun e w' => e = .returned (.bool r) ∧ Below w.heap.size w w' := by
 obtain ⟨hUa0, hUb0⟩ := hU; have hu27 := Tryd.underlying27; have HR0_4 := Aside0.mk hr0_4; have HC0_4 := Aside0.mk hc0_4; clear hr0_4 hc0_4; have HR0_5 := Aside0.mk hr0_5; have HC0_5 := Aside0.mk hc0_5; clear hr0_5 hc0_5; have HB := Aside0.mk (Below.refl w.heap.size w); have H : ((garmentlaw34_few.f a0_0 a0_1 a0_2 a0_3 l0_4 l0_5).bind fun t546 => (if t546 = true then ((interchange_Print.f k a0_0 a0_1 a0_2 a0_3 l0_4 l0_5).bind fun bt548 => (if bt548.2 = 0 then (garmentlaw34_InterchangePrefix.j0 k a1 bt548.1 bt548.2 (decide (a1 > (bt548.1.size : Int))) a0_0 a0_1 a0_2 a0_3 l0_4 l0_5) else (garmentlaw34_InterchangePrefix.j0 k a1 bt548.1 bt548.2 true a0_0 a0_1 a0_2 a0_3 l0_4 l0_5))) else ((garmentlaw34_awake.f k).bind fun t547 => (some t547)))) = some r := h; clear h; replace H := Option.bind_eq_some_iff.mp H; obtain ⟨t546, A30, H⟩ := H; replace H : (if t546 = true then ((interchange_Print.f k a0_0 a0_1 a0_2 a0_3 l0_4 l0_5).bind fun bt548 => (if bt548.2 = 0 then (garmentlaw34_InterchangePrefix.j0 k a1 bt548.1 bt548.2 (decide (a1 > (bt548.1.size : Int))) a0_0 a0_1 a0_2 a0_3 l0_4 l0_5) else (garmentlaw34_InterchangePrefix.j0 k a1 bt548.1 bt548.2 true a0_0 a0_1 a0_2 a0_3 l0_4 l0_5))) else ((garmentlaw34_awake.f k).bind fun t547 => (some t547))) = some r := H; have A3 := Aside0.mk A30; clear A30
 by_cases c4 : t546 = true
 ·subst c4
  have H1 : ((interchange_Print.f k a0_0 a0_1 a0_2 a0_3 l0_4 l0_5).bind fun bt548 => (if bt548.2 = 0 then (garmentlaw34_InterchangePrefix.j0 k a1 bt548.1 bt548.2 (decide (a1 > (bt548.1.size : Int))) a0_0 a0_1 a0_2 a0_3 l0_4 l0_5) else (garmentlaw34_InterchangePrefix.j0 k a1 bt548.1 bt548.2 true a0_0 a0_1 a0_2 a0_3 l0_4 l0_5))) = some r := by rw [if_pos rfl] at H; exact H
  clear H; have H := H1; clear H1; replace H := Option.bind_eq_some_iff.mp H; obtain ⟨⟨t548, t549⟩, A50, H⟩ := H; replace H : (if t549 = 0 then (garmentlaw34_InterchangePrefix.j0 k a1 t548 t549 (decide (a1 > (t548.size : Int))) a0_0 a0_1 a0_2 a0_3 l0_4 l0_5) else (garmentlaw34_InterchangePrefix.j0 k a1 t548 t549 true a0_0 a0_1 a0_2 a0_3 l0_4 l0_5)) = some r := H; have A5 := Aside0.mk A50; clear A50; have HC6 := Aside0.mk H; clear H
  go_enter Tryd.func7, Tryd.ntmps7
  go_upto_region 4 with (first | ((with_reducible refine gate_dst (N := 2) rfl ?_); (try (refine gate_guard (by rfl) ?_; dsimp only)); refine box_event ?hg (N := 2) ?hd (cs := #[.int .i64 a0_0, .int .i64 a0_1, .int .i64 a0_2, .int .i64 a0_3, .slice A0_4 l0_4.length c0_4, .slice A0_5 l0_5.length c0_5]) (t := 27) ?hr ?_; (case hd => rfl); (case hg => rfl); (case hr => first | (go_simp; done) | (go_simp; rfl)); intro gb545 hg w7 hbox hb; have BK545 := Aside0.mk (hbox); have GW545 := Aside0.mk ((by rw [hg]; exact (below_size (be HB.out)) : w.heap.size ≤ gb545)); have GE545 := Aside0.mk ((by rw [hg]; exact (below_size (be HB.out)) : w.heap.size ≤ gb545)); replace HB := Aside0.mk (below_step (be HB.out) hb); clear hb hbox hg; have hcz8_0 := bc BK545.out 0 (.int .i64 a0_0) rfl; have hcz8_1 := bc BK545.out 1 (.int .i64 a0_1) rfl; have hcz8_2 := bc BK545.out 2 (.int .i64 a0_2) rfl; have hcz8_3 := bc BK545.out 3 (.int .i64 a0_3) rfl; have hcz8_4 := bc BK545.out 4 (.slice A0_4 l0_4.length c0_4) rfl; have hcz8_5 := bc BK545.out 5 (.slice A0_5 l0_5.length c0_5) rfl; have hfz8_0 := blk_frozen BK545.out 0; have hfz8_1 := blk_frozen BK545.out 1; have hfz8_2 := blk_frozen BK545.out 2; have hfz8_3 := blk_frozen BK545.out 3; have hfz8_4 := blk_frozen BK545.out 4; have hfz8_5 := blk_frozen BK545.out 5) | ((with_reducible refine gate_callee (f := 8) rfl ?_); refine goesA (some 13) rfl rfl Tryd.func8 (by kernel_rfl) rfl #[.agg #[.int .i64 a0_0, .int .i64 a0_1, .int .i64 a0_2, .int .i64 a0_3, .slice A0_4 l0_4.length c0_4, .slice A0_5 l0_5.length c0_5]] rfl ?_; (with_reducible refine (garmentlaw34_few.calls a0_0 a0_1 a0_2 a0_3 _ _ l0_4 _ _ l0_5 true _ ?side1 ?side2 ?side3 ?side4 A3.out).mono ?_); (case side1 => exact cu (Kd.C_below HR0_4.out HB.out)); (case side2 => exact HC0_4.out); (case side3 => exact cu (Kd.C_below HR0_5.out HB.out)); (case side4 => exact HC0_5.out); rintro e w9 ⟨rfl, hb⟩; refine ⟨_, rfl, ?_⟩; replace BK545 := Aside0.mk (blk_below (bu BK545.out) hb); replace HB := Aside0.mk (below_step (be HB.out) hb); (try clear hb); have hcz10_0 := bc BK545.out 0 (.int .i64 a0_0) rfl; have hcz10_1 := bc BK545.out 1 (.int .i64 a0_1) rfl; have hcz10_2 := bc BK545.out 2 (.int .i64 a0_2) rfl; have hcz10_3 := bc BK545.out 3 (.int .i64 a0_3) rfl; have hcz10_4 := bc BK545.out 4 (.slice A0_4 l0_4.length c0_4) rfl; have hcz10_5 := bc BK545.out 5 (.slice A0_5 l0_5.length c0_5) rfl; have hfz10_0 := blk_frozen BK545.out 0; have hfz10_1 := blk_frozen BK545.out 1; have hfz10_2 := blk_frozen BK545.out 2; have hfz10_3 := blk_frozen BK545.out 3; have hfz10_4 := blk_frozen BK545.out 4; have hfz10_5 := blk_frozen BK545.out 5) | ((with_reducible refine gate_callee (f := 10) rfl ?_); refine goesA (some 18) rfl rfl Tryd.func10 (by kernel_rfl) rfl #[.agg #[.int .i64 a0_0, .int .i64 a0_1, .int .i64 a0_2, .int .i64 a0_3, .slice A0_4 l0_4.length c0_4, .slice A0_5 l0_5.length c0_5]] rfl ?_; (with_reducible refine (interchange_Print.calls k a0_0 a0_1 a0_2 a0_3 _ _ l0_4 _ _ l0_5 t548 t549 _ ?side1 ?side2 ?side3 ?side4 A5.out (by first | exact Aside0.mk (GL.below hG.out (be HB.out)) | exact hG)).mono ?_); (case side1 => exact cu (Kd.C_below HR0_4.out HB.out)); (case side2 => exact HC0_4.out); (case side3 => exact cu (Kd.C_below HR0_5.out HB.out)); (case side4 => exact HC0_5.out); rintro e w11 ⟨rfl, hb⟩; refine ⟨_, rfl, ?_⟩; replace BK545 := Aside0.mk (blk_below (bu BK545.out) hb); replace HB := Aside0.mk (below_step (be HB.out) hb); (try clear hb)))
  (try simp only [Act.put, List.setIfInBounds_toArray, List.set_cons_zero, List.set_cons_succ])
  go_cut [29] (fun v29 wc => ∃ (kq : Nat) (x29_5 : Bool), v29 = .bool x29_5 ∧ Aside0 (garmentlaw34_InterchangePrefix.j0 kq a1 t548 t549 x29_5 a0_0 a0_1 a0_2 a0_3 l0_4 l0_5 = some r) ∧ Aside0 (kq ≤ k) ∧ Aside0 (wc.heap[gb545]? = some (.cells #[.int .i64 a0_0, .int .i64 a0_1, .int .i64 a0_2, .int .i64 a0_3, (.slice A0_4 l0_4.length c0_4), (.slice A0_5 l0_5.length c0_5)] 27 (0, 0))) ∧ Aside0 (Below w.heap.size w wc))
  case first =>
   have H := HC6.out; clear HC6
   by_cases c12 : t549 = 0
   ·rw [if_pos c12] at H; have c12b0 : (t549 == 0) = true := beq_iff_eq.mpr c12; have c12b1 : (t549 != 0) = false := bne_eq_false_iff_eq.mpr c12; clear c12
    (first | rw [c12b0] | (simp only [i64_w, i32_w]; rw [c12b0]) | skip)
    have H' := Aside0.mk H; clear H
    go_wp2
    go_meet
    case rel => exact ⟨_, (decide (a1 > (t548.size : Int))), (by first | rfl | (simp; done) | (simp [*]; done)), H', ⟨by first | omega | exact Nat.le_refl _⟩, ⟨bu (BK545.out)⟩, ⟨be HB.out⟩⟩
   ·rw [if_neg c12] at H; have c12b0 : (t549 == 0) = false := beq_eq_false_iff_ne.mpr c12; have c12b1 : (t549 != 0) = true := bne_iff_ne.mpr c12
    (first | rw [c12b0] | (simp only [i64_w, i32_w]; rw [c12b0]) | skip)
    have H' := Aside0.mk H; clear H
    go_wp2
    go_meet
    case rel => exact ⟨_, (true), (by first | rfl | (simp; done) | (simp [*]; done)), H', ⟨by first | omega | exact Nat.le_refl _⟩, ⟨bu (BK545.out)⟩, ⟨be HB.out⟩⟩
  case rest =>
   clear HC6
   try clear c1
   try clear p2
   try clear c4
   try clear c7
   try clear c8
   try clear c10
   try clear c12
   try clear c12b0
   try clear c12b1
   try clear hcz10_0 hcz10_1 hcz10_2 hcz10_3 hcz10_4 hcz10_5
   try clear hcz8_0 hcz8_1 hcz8_2 hcz8_3 hcz8_4 hcz8_5
   try clear hfz10_0 hfz10_1 hfz10_2 hfz10_3 hfz10_4 hfz10_5
   try clear hfz8_0 hfz8_1 hfz8_2 hfz8_3 hfz8_4 hfz8_5
   obtain ⟨kq, x29_5, rfl, HA, HJ5, BK545, HB⟩ := hcut
   cases kq with
   | zero => exact absurd HA.out (by simp [garmentlaw34_InterchangePrefix.j0])
   | succ kj5 =>
    have H := HA.out; clear HA; simp only [garmentlaw34_InterchangePrefix.j0] at H
    by_cases c13 : x29_5 = true
    ·subst c13
     have H1 : (if t549 = 0 then ((garmentlaw34_awake.f kj5).bind fun t550 => (some t550)) else (if t548.toList = ([] : List UInt8) then ((garmentlaw34_awake.f kj5).bind fun t551 => (some t551)) else (some false))) = some r := by rw [if_pos rfl] at H; exact H
     clear H; have H := H1; clear H1
     by_cases c14 : t549 = 0
     ·rw [if_pos c14] at H; have c14b0 : (t549 == 0) = true := beq_iff_eq.mpr c14; have c14b1 : (t549 != 0) = false := bne_eq_false_iff_eq.mpr c14; clear c14; replace H := Option.bind_eq_some_iff.mp H; obtain ⟨t550, A150, H⟩ := H; replace H : (some t550) = some r := H; have A15 := Aside0.mk A150; clear A150; obtain rfl := Option.some.inj H
      go_wp2_with (first | (go_at_call 9; (with_reducible refine (garmentlaw34_awake.calls kj5  t550 _ A15.out (by first | exact Aside0.mk (GL.below hG.out (be HB.out)) | exact hG)).mono ?_); rintro e w16 ⟨rfl, hb⟩; replace BK545 := Aside0.mk (blk_below (bu BK545.out) hb); replace HB := Aside0.mk (below_step (be HB.out) hb); (try clear hb)))
      go_ret
      exact ⟨by first | rfl | (simp [errW_none, errW_some] <;> rfl) | (simp [*, errW_none, errW_some] <;> rfl), be HB.out⟩
     ·rw [if_neg c14] at H; have c14b0 : (t549 == 0) = false := beq_eq_false_iff_ne.mpr c14; have c14b1 : (t549 != 0) = true := bne_iff_ne.mpr c14
      by_cases c17 : t548.toList = ([] : List UInt8)
      ·rw [if_pos c17] at H; have c17b0 : (t548.toList == ([] : List UInt8)) = true := beq_iff_eq.mpr c17; have c17b1 : (t548.toList != ([] : List UInt8)) = false := bne_eq_false_iff_eq.mpr c17; clear c17; replace H := Option.bind_eq_some_iff.mp H; obtain ⟨t551, A180, H⟩ := H; replace H : (some t551) = some r := H; have A18 := Aside0.mk A180; clear A180; obtain rfl := Option.some.inj H
       go_wp2_with (first | (go_at_call 9; (with_reducible refine (garmentlaw34_awake.calls kj5  t551 _ A18.out (by first | exact Aside0.mk (GL.below hG.out (be HB.out)) | exact hG)).mono ?_); rintro e w19 ⟨rfl, hb⟩; replace BK545 := Aside0.mk (blk_below (bu BK545.out) hb); replace HB := Aside0.mk (below_step (be HB.out) hb); (try clear hb)))
       go_ret
       exact ⟨by first | rfl | (simp [errW_none, errW_some] <;> rfl) | (simp [*, errW_none, errW_some] <;> rfl), be HB.out⟩
      ·rw [if_neg c17] at H; have c17b0 : (t548.toList == ([] : List UInt8)) = false := beq_eq_false_iff_ne.mpr c17; have c17b1 : (t548.toList != ([] : List UInt8)) = true := bne_iff_ne.mpr c17; obtain rfl := Option.some.inj H
       go_wp2
       go_ret
       exact ⟨by first | rfl | (simp [errW_none, errW_some] <;> rfl) | (simp [*, errW_none, errW_some] <;> rfl), be HB.out⟩
    ·replace c13 := Bool.eq_false_iff.mpr c13; subst c13
     have H1 : (if 0 ≤ a1 then (if a1 ≤ (t548.size : Int) then ((interchange_Parse.f kj5 (t548.extract 0 (a1 : Int).toNat)).bind fun bt552 => ((garmentlaw34_lines.f kj5 (t548.extract 0 (a1 : Int).toNat)).bind fun t565 => (if (t548.extract 0 (a1 : Int).toNat).toList = ([] : List UInt8) then (garmentlaw34_InterchangePrefix.j1 kj5 bt552.2.2.2.2.2.2.1 bt552.2.2.2.2.2.2.2 t565 false a0_0 a0_1 a0_2 a0_3 l0_4 l0_5 bt552.1 bt552.2.1 bt552.2.2.1 bt552.2.2.2.1 bt552.2.2.2.2.1 bt552.2.2.2.2.2.1) else (if 0 ≤ (wrap64 (((t548.extract 0 (a1 : Int).toNat).size : Int) - 1)) then (if (wrap64 (((t548.extract 0 (a1 : Int).toNat).size : Int) - 1)) < ((t548.extract 0 (a1 : Int).toNat).size : Int) then (garmentlaw34_InterchangePrefix.j1 kj5 bt552.2.2.2.2.2.2.1 bt552.2.2.2.2.2.2.2 t565 ((bt (t548.extract 0 (a1 : Int).toNat) (wrap64 (((t548.extract 0 (a1 : Int).toNat).size : Int) - 1))) != 10) a0_0 a0_1 a0_2 a0_3 l0_4 l0_5 bt552.1 bt552.2.1 bt552.2.2.1 bt552.2.2.2.1 bt552.2.2.2.2.1 bt552.2.2.2.2.2.1) else (none)) else (none))))) else (none)) else (none)) = some r := by rw [if_neg (show ¬ (false = true) by decide)] at H; exact H
     clear H; have H := H1; clear H1
     by_cases c20 : 0 ≤ a1
     ·rw [if_pos c20] at H; have c20b0 := eq_true c20; have c20b1 : decide (0 ≤ a1) = true := decide_eq_true c20; clear c20
      by_cases c21 : a1 ≤ (t548.size : Int)
      ·rw [if_pos c21] at H; have c21b0 := eq_true c21; have c21b1 : decide (a1 ≤ (t548.size : Int)) = true := decide_eq_true c21; clear c21; replace H := Option.bind_eq_some_iff.mp H; obtain ⟨⟨t552, t553, t554, t555, t556, t559, t562, t563⟩, A220, H⟩ := H; replace H : ((garmentlaw34_lines.f kj5 (t548.extract 0 (a1 : Int).toNat)).bind fun t565 => (if (t548.extract 0 (a1 : Int).toNat).toList = ([] : List UInt8) then (garmentlaw34_InterchangePrefix.j1 kj5 t562 t563 t565 false a0_0 a0_1 a0_2 a0_3 l0_4 l0_5 t552 t553 t554 t555 t556 t559) else (if 0 ≤ (wrap64 (((t548.extract 0 (a1 : Int).toNat).size : Int) - 1)) then (if (wrap64 (((t548.extract 0 (a1 : Int).toNat).size : Int) - 1)) < ((t548.extract 0 (a1 : Int).toNat).size : Int) then (garmentlaw34_InterchangePrefix.j1 kj5 t562 t563 t565 ((bt (t548.extract 0 (a1 : Int).toNat) (wrap64 (((t548.extract 0 (a1 : Int).toNat).size : Int) - 1))) != 10) a0_0 a0_1 a0_2 a0_3 l0_4 l0_5 t552 t553 t554 t555 t556 t559) else (none)) else (none)))) = some r := H; have A22 := Aside0.mk A220; clear A220; replace H := Option.bind_eq_some_iff.mp H; obtain ⟨t565, A230, H⟩ := H; replace H : (if (t548.extract 0 (a1 : Int).toNat).toList = ([] : List UInt8) then (garmentlaw34_InterchangePrefix.j1 kj5 t562 t563 t565 false a0_0 a0_1 a0_2 a0_3 l0_4 l0_5 t552 t553 t554 t555 t556 t559) else (if 0 ≤ (wrap64 (((t548.extract 0 (a1 : Int).toNat).size : Int) - 1)) then (if (wrap64 (((t548.extract 0 (a1 : Int).toNat).size : Int) - 1)) < ((t548.extract 0 (a1 : Int).toNat).size : Int) then (garmentlaw34_InterchangePrefix.j1 kj5 t562 t563 t565 ((bt (t548.extract 0 (a1 : Int).toNat) (wrap64 (((t548.extract 0 (a1 : Int).toNat).size : Int) - 1))) != 10) a0_0 a0_1 a0_2 a0_3 l0_4 l0_5 t552 t553 t554 t555 t556 t559) else (none)) else (none))) = some r := H; have A23 := Aside0.mk A230; clear A230; have HC24 := Aside0.mk H; clear H
       go_upto_region 9 with (first | ((with_reducible refine gate_callee (f := 12) rfl ?_); refine goesA (some 45) rfl rfl Tryd.func12 (by kernel_rfl) rfl #[.string (t548.extract 0 (a1 : Int).toNat)] rfl ?_; (with_reducible refine (interchange_Parse.calls kj5 (t548.extract 0 (a1 : Int).toNat) t552 t553 t554 t555 t556 t559 t562 t563 _ A22.out (by first | exact Aside0.mk (GL.below hG.out (be HB.out)) | exact hG)).mono ?_); rintro e w25 ⟨v557, v560, rfl, ho0, ho1, hb⟩; refine ⟨_, rfl, ?_⟩; have HO558 := Aside0.mk (Kd.R_lower ho0 (below_size (be HB.out))); have HO561 := Aside0.mk (Kd.R_lower ho1 (below_size (be HB.out))); replace BK545 := Aside0.mk (blk_below (bu BK545.out) hb); replace HB := Aside0.mk (below_step (be HB.out) hb); (try clear hb); (try clear ho0); (try clear ho1)) | ((with_reducible refine gate_dst (N := 8) rfl ?_); (try (refine gate_guard (by rfl) ?_; dsimp only)); refine box_event ?hg (N := 8) ?hd (cs := #[.int .i64 0, .int .i64 0, .int .i64 0, .int .i64 0, .slice none 0 0, .slice none 0 0]) (t := 27) ?hr ?_; (case hd => rfl); (case hg => rfl); (case hr => first | (go_simp; done) | (go_simp; rfl)); intro gb564 hg w26 hbox hb; have BK564 := Aside0.mk (hbox); have GW564 := Aside0.mk ((by rw [hg]; exact (below_size (be HB.out)) : w.heap.size ≤ gb564)); have GE564 := Aside0.mk ((by rw [hg]; exact (below_size (be HB.out)) : w.heap.size ≤ gb564)); have NB545_564 := Aside0.mk ((by rw [hg]; exact Nat.ne_of_lt (blk_lt (g := gb545) (o := .cells #[.int .i64 a0_0, .int .i64 a0_1, .int .i64 a0_2, .int .i64 a0_3, .slice A0_4 l0_4.length c0_4, .slice A0_5 l0_5.length c0_5] 27 (0, 0)) (bu BK545.out)) : gb545 ≠ gb564)); have NB564_545 := Aside0.mk ((by rw [hg]; exact Nat.ne_of_gt (blk_lt (g := gb545) (o := .cells #[.int .i64 a0_0, .int .i64 a0_1, .int .i64 a0_2, .int .i64 a0_3, .slice A0_4 l0_4.length c0_4, .slice A0_5 l0_5.length c0_5] 27 (0, 0)) (bu BK545.out)) : gb564 ≠ gb545)); replace HO558 := Aside0.mk (Kd.R_below (ku HO558.out) hb); replace HO561 := Aside0.mk (Kd.R_below (ku HO561.out) hb); replace BK545 := Aside0.mk (blk_below (bu BK545.out) hb); replace HB := Aside0.mk (below_step (be HB.out) hb); clear hb hbox hg; have hnb27 := NB564_545.out; have hnc27 := NB545_564.out; have hcz28_0 := bc BK564.out 0 (.int .i64 0) rfl; have hcz28_1 := bc BK564.out 1 (.int .i64 0) rfl; have hcz28_2 := bc BK564.out 2 (.int .i64 0) rfl; have hcz28_3 := bc BK564.out 3 (.int .i64 0) rfl; have hcz28_4 := bc BK564.out 4 (.slice none 0 0) rfl; have hcz28_5 := bc BK564.out 5 (.slice none 0 0) rfl; have hfz28_0 := blk_frozen BK564.out 0; have hfz28_1 := blk_frozen BK564.out 1; have hfz28_2 := blk_frozen BK564.out 2; have hfz28_3 := blk_frozen BK564.out 3; have hfz28_4 := blk_frozen BK564.out 4; have hfz28_5 := blk_frozen BK564.out 5; obtain ⟨Ao29, co29, eo29⟩ := Kd.R_slice HO558.out; subst eo29; obtain ⟨Ao30, co30, eo30⟩ := Kd.R_slice HO561.out; subst eo30) | ((with_reducible refine gate_callee (f := 14) rfl ?_); refine goesA (some 50) rfl rfl Tryd.func14 (by kernel_rfl) rfl #[.string (t548.extract 0 (a1 : Int).toNat)] rfl ?_; (with_reducible refine (garmentlaw34_lines.calls kj5 (t548.extract 0 (a1 : Int).toNat) t565 _ A23.out).mono ?_); rintro e w' ⟨rfl, ⟨nd, rfl⟩⟩; refine ⟨_, rfl, ?_⟩))
       (try simp only [Act.put, List.setIfInBounds_toArray, List.set_cons_zero, List.set_cons_succ])
       go_cut [60] (fun v60 wc => ∃ (kq : Nat) (x60_23 : Bool), v60 = .bool x60_23 ∧ Aside0 (garmentlaw34_InterchangePrefix.j1 kq t562 t563 t565 x60_23 a0_0 a0_1 a0_2 a0_3 l0_4 l0_5 t552 t553 t554 t555 t556 t559 = some r) ∧ Aside0 (kq ≤ kj5) ∧ Aside0 (Kd.R (Kd.int .i64) 3 wc w.heap.size (fun _ => True) (.slice Ao29 t556.length co29) t556) ∧ Aside0 (Kd.R k46 46 wc w.heap.size (fun _ => True) (.slice Ao30 t559.length co30) t559) ∧ Aside0 (wc.heap[gb545]? = some (.cells #[.int .i64 a0_0, .int .i64 a0_1, .int .i64 a0_2, .int .i64 a0_3, (.slice A0_4 l0_4.length c0_4), (.slice A0_5 l0_5.length c0_5)] 27 (0, 0))) ∧ Aside0 (wc.heap[gb564]? = some (.cells #[.int .i64 t552, .int .i64 t553, .int .i64 t554, .int .i64 t555, (.slice Ao29 t556.length co29), (.slice Ao30 t559.length co30)] 27 (0, 0))) ∧ Aside0 (Below w.heap.size w wc))
       case first =>
        have H := HC24.out; clear HC24; generalize hsx_ : t548.extract 0 (a1 : Int).toNat = sx_ at *; clear hsx_
        by_cases c31 : sx_.toList = ([] : List UInt8)
        ·rw [if_pos c31] at H; have c31b0 : (sx_.toList == ([] : List UInt8)) = true := beq_iff_eq.mpr c31; have c31b1 : (sx_.toList != ([] : List UInt8)) = false := bne_eq_false_iff_eq.mpr c31; clear c31
         (first | rw [c31b0] | (simp only [i64_w, i32_w]; rw [c31b0]) | skip)
         have H' := Aside0.mk H; clear H
         go_wp2
         go_meet
         case rel => exact ⟨_, (false), (by first | rfl | (simp; done) | (simp [*]; done)), H', ⟨by have := HJ5.out; first | omega | exact Nat.le_refl _⟩, ⟨ku (Kd.R_mono (Kd.R_far (p := ⟨gb564, 5, none⟩) (Kd.R_far (p := ⟨gb564, 4, none⟩) (Kd.R_far (p := ⟨gb564, 3, none⟩) (Kd.R_far (p := ⟨gb564, 2, none⟩) (Kd.R_far (p := ⟨gb564, 1, none⟩) (Kd.R_far (p := ⟨gb564, 0, none⟩) (Kd.R_types HO558.out BK564.out (by decide)) (fun _ hk => hk.2) (.int .i64 t552)) (fun _ hk => hk.2) (.int .i64 t553)) (fun _ hk => hk.2) (.int .i64 t554)) (fun _ hk => hk.2) (.int .i64 t555)) (fun _ hk => hk.2) (.slice Ao29 t556.length co29)) (fun _ hk => hk.2) (.slice Ao30 t559.length co30)) (fun _ hk => trivial))⟩, ⟨ku (Kd.R_mono (Kd.R_far (p := ⟨gb564, 5, none⟩) (Kd.R_far (p := ⟨gb564, 4, none⟩) (Kd.R_far (p := ⟨gb564, 3, none⟩) (Kd.R_far (p := ⟨gb564, 2, none⟩) (Kd.R_far (p := ⟨gb564, 1, none⟩) (Kd.R_far (p := ⟨gb564, 0, none⟩) (Kd.R_types HO561.out BK564.out (by decide)) (fun _ hk => hk.2) (.int .i64 t552)) (fun _ hk => hk.2) (.int .i64 t553)) (fun _ hk => hk.2) (.int .i64 t554)) (fun _ hk => hk.2) (.int .i64 t555)) (fun _ hk => hk.2) (.slice Ao29 t556.length co29)) (fun _ hk => hk.2) (.slice Ao30 t559.length co30)) (fun _ hk => trivial))⟩, ⟨by (with_reducible repeat (first | refine blk_drewN ?_ _ | refine blk_drew ?_ | refine blk_alloc ?_ _)); refine blk_far ?_ NB545_564.out _; (with_reducible repeat (first | refine blk_drewN ?_ _ | refine blk_drew ?_ | refine blk_alloc ?_ _)); refine blk_far ?_ NB545_564.out _; (with_reducible repeat (first | refine blk_drewN ?_ _ | refine blk_drew ?_ | refine blk_alloc ?_ _)); refine blk_far ?_ NB545_564.out _; (with_reducible repeat (first | refine blk_drewN ?_ _ | refine blk_drew ?_ | refine blk_alloc ?_ _)); refine blk_far ?_ NB545_564.out _; (with_reducible repeat (first | refine blk_drewN ?_ _ | refine blk_drew ?_ | refine blk_alloc ?_ _)); refine blk_far ?_ NB545_564.out _; (with_reducible repeat (first | refine blk_drewN ?_ _ | refine blk_drew ?_ | refine blk_alloc ?_ _)); refine blk_far ?_ NB545_564.out _; (with_reducible repeat (first | refine blk_drewN ?_ _ | refine blk_drew ?_ | refine blk_alloc ?_ _)); exact BK545.out⟩, ⟨by (with_reducible repeat (first | refine blk_drewN ?_ _ | refine blk_drew ?_ | refine blk_alloc ?_ _)); refine blk_put (cs := #[.int .i64 t552, .int .i64 t553, .int .i64 t554, .int .i64 t555, .slice Ao29 t556.length co29, .slice none 0 0]) ?_ 5 _ rfl; (with_reducible repeat (first | refine blk_drewN ?_ _ | refine blk_drew ?_ | refine blk_alloc ?_ _)); refine blk_put (cs := #[.int .i64 t552, .int .i64 t553, .int .i64 t554, .int .i64 t555, .slice none 0 0, .slice none 0 0]) ?_ 4 _ rfl; (with_reducible repeat (first | refine blk_drewN ?_ _ | refine blk_drew ?_ | refine blk_alloc ?_ _)); refine blk_put (cs := #[.int .i64 t552, .int .i64 t553, .int .i64 t554, .int .i64 0, .slice none 0 0, .slice none 0 0]) ?_ 3 _ rfl; (with_reducible repeat (first | refine blk_drewN ?_ _ | refine blk_drew ?_ | refine blk_alloc ?_ _)); refine blk_put (cs := #[.int .i64 t552, .int .i64 t553, .int .i64 0, .int .i64 0, .slice none 0 0, .slice none 0 0]) ?_ 2 _ rfl; (with_reducible repeat (first | refine blk_drewN ?_ _ | refine blk_drew ?_ | refine blk_alloc ?_ _)); refine blk_put (cs := #[.int .i64 t552, .int .i64 0, .int .i64 0, .int .i64 0, .slice none 0 0, .slice none 0 0]) ?_ 1 _ rfl; (with_reducible repeat (first | refine blk_drewN ?_ _ | refine blk_drew ?_ | refine blk_alloc ?_ _)); refine blk_put (cs := #[.int .i64 0, .int .i64 0, .int .i64 0, .int .i64 0, .slice none 0 0, .slice none 0 0]) ?_ 0 _ rfl; (with_reducible repeat (first | refine blk_drewN ?_ _ | refine blk_drew ?_ | refine blk_alloc ?_ _)); exact BK564.out⟩, ⟨be HB.out⟩⟩
        ·rw [if_neg c31] at H; have c31b0 : (sx_.toList == ([] : List UInt8)) = false := beq_eq_false_iff_ne.mpr c31; have c31b1 : (sx_.toList != ([] : List UInt8)) = true := bne_iff_ne.mpr c31
         (first | rw [c31b0] | (simp only [i64_w, i32_w]; rw [c31b0]) | skip)
         obtain ⟨ji32, hji32⟩ : ∃ j_ : Int, (wrap64 ((sx_.size : Int) - 1)) = j_ := ⟨_, rfl⟩
         replace H : (if 0 ≤ (ji32) then (if (ji32) < (sx_.size : Int) then (garmentlaw34_InterchangePrefix.j1 kj5 t562 t563 t565 ((bt sx_ (ji32)) != 10) a0_0 a0_1 a0_2 a0_3 l0_4 l0_5 t552 t553 t554 t555 t556 t559) else (none)) else (none)) = some r := by first | (rw [hji32] at H; exact H) | (simp only [hji32] at H ⊢; exact H)
         have hji32w : (IntKind.i64.wrap ((sx_.size : Int) - 1)) = ji32 := (i64_w _).trans hji32
         by_cases c33 : 0 ≤ (ji32)
         ·rw [if_pos c33] at H; have c33b0 : decide (0 ≤ (ji32)) = true := decide_eq_true c33; clear c33
          by_cases c34 : (ji32) < (sx_.size : Int)
          ·rw [if_pos c34] at H; have c34b0 : decide ((ji32) < (sx_.size : Int)) = true := decide_eq_true c34; clear c34; have H' := Aside0.mk H; clear H; have p35 : 0 ≤ ((ji32) : Int) := oda; have q35 : (ji32) < (sx_.size : Int) := oda; have hx35 := bt_at sx_ (ji32); replace p35 := eq_true p35; replace q35 := eq_true q35
           go_wp2
           go_meet
           case rel => exact ⟨_, (((bt sx_ (ji32)) != 10)), (by first | rfl | (simp; done) | (simp only [← hji32] <;> (first | rfl | simp)) | (simp [*]; done)), H', ⟨by have := HJ5.out; first | omega | exact Nat.le_refl _⟩, ⟨ku (Kd.R_mono (Kd.R_far (p := ⟨gb564, 5, none⟩) (Kd.R_far (p := ⟨gb564, 4, none⟩) (Kd.R_far (p := ⟨gb564, 3, none⟩) (Kd.R_far (p := ⟨gb564, 2, none⟩) (Kd.R_far (p := ⟨gb564, 1, none⟩) (Kd.R_far (p := ⟨gb564, 0, none⟩) (Kd.R_types HO558.out BK564.out (by decide)) (fun _ hk => hk.2) (.int .i64 t552)) (fun _ hk => hk.2) (.int .i64 t553)) (fun _ hk => hk.2) (.int .i64 t554)) (fun _ hk => hk.2) (.int .i64 t555)) (fun _ hk => hk.2) (.slice Ao29 t556.length co29)) (fun _ hk => hk.2) (.slice Ao30 t559.length co30)) (fun _ hk => trivial))⟩, ⟨ku (Kd.R_mono (Kd.R_far (p := ⟨gb564, 5, none⟩) (Kd.R_far (p := ⟨gb564, 4, none⟩) (Kd.R_far (p := ⟨gb564, 3, none⟩) (Kd.R_far (p := ⟨gb564, 2, none⟩) (Kd.R_far (p := ⟨gb564, 1, none⟩) (Kd.R_far (p := ⟨gb564, 0, none⟩) (Kd.R_types HO561.out BK564.out (by decide)) (fun _ hk => hk.2) (.int .i64 t552)) (fun _ hk => hk.2) (.int .i64 t553)) (fun _ hk => hk.2) (.int .i64 t554)) (fun _ hk => hk.2) (.int .i64 t555)) (fun _ hk => hk.2) (.slice Ao29 t556.length co29)) (fun _ hk => hk.2) (.slice Ao30 t559.length co30)) (fun _ hk => trivial))⟩, ⟨by (with_reducible repeat (first | refine blk_drewN ?_ _ | refine blk_drew ?_ | refine blk_alloc ?_ _)); refine blk_far ?_ NB545_564.out _; (with_reducible repeat (first | refine blk_drewN ?_ _ | refine blk_drew ?_ | refine blk_alloc ?_ _)); refine blk_far ?_ NB545_564.out _; (with_reducible repeat (first | refine blk_drewN ?_ _ | refine blk_drew ?_ | refine blk_alloc ?_ _)); refine blk_far ?_ NB545_564.out _; (with_reducible repeat (first | refine blk_drewN ?_ _ | refine blk_drew ?_ | refine blk_alloc ?_ _)); refine blk_far ?_ NB545_564.out _; (with_reducible repeat (first | refine blk_drewN ?_ _ | refine blk_drew ?_ | refine blk_alloc ?_ _)); refine blk_far ?_ NB545_564.out _; (with_reducible repeat (first | refine blk_drewN ?_ _ | refine blk_drew ?_ | refine blk_alloc ?_ _)); refine blk_far ?_ NB545_564.out _; (with_reducible repeat (first | refine blk_drewN ?_ _ | refine blk_drew ?_ | refine blk_alloc ?_ _)); exact BK545.out⟩, ⟨by (with_reducible repeat (first | refine blk_drewN ?_ _ | refine blk_drew ?_ | refine blk_alloc ?_ _)); refine blk_put (cs := #[.int .i64 t552, .int .i64 t553, .int .i64 t554, .int .i64 t555, .slice Ao29 t556.length co29, .slice none 0 0]) ?_ 5 _ rfl; (with_reducible repeat (first | refine blk_drewN ?_ _ | refine blk_drew ?_ | refine blk_alloc ?_ _)); refine blk_put (cs := #[.int .i64 t552, .int .i64 t553, .int .i64 t554, .int .i64 t555, .slice none 0 0, .slice none 0 0]) ?_ 4 _ rfl; (with_reducible repeat (first | refine blk_drewN ?_ _ | refine blk_drew ?_ | refine blk_alloc ?_ _)); refine blk_put (cs := #[.int .i64 t552, .int .i64 t553, .int .i64 t554, .int .i64 0, .slice none 0 0, .slice none 0 0]) ?_ 3 _ rfl; (with_reducible repeat (first | refine blk_drewN ?_ _ | refine blk_drew ?_ | refine blk_alloc ?_ _)); refine blk_put (cs := #[.int .i64 t552, .int .i64 t553, .int .i64 0, .int .i64 0, .slice none 0 0, .slice none 0 0]) ?_ 2 _ rfl; (with_reducible repeat (first | refine blk_drewN ?_ _ | refine blk_drew ?_ | refine blk_alloc ?_ _)); refine blk_put (cs := #[.int .i64 t552, .int .i64 0, .int .i64 0, .int .i64 0, .slice none 0 0, .slice none 0 0]) ?_ 1 _ rfl; (with_reducible repeat (first | refine blk_drewN ?_ _ | refine blk_drew ?_ | refine blk_alloc ?_ _)); refine blk_put (cs := #[.int .i64 0, .int .i64 0, .int .i64 0, .int .i64 0, .slice none 0 0, .slice none 0 0]) ?_ 0 _ rfl; (with_reducible repeat (first | refine blk_drewN ?_ _ | refine blk_drew ?_ | refine blk_alloc ?_ _)); exact BK564.out⟩, ⟨be HB.out⟩⟩
          ·rw [if_neg c34] at H; exact absurd H (by simp)
         ·rw [if_neg c33] at H; exact absurd H (by simp)
       case rest =>
        clear HC24
        try clear c1
        try clear c2
        try clear p2
        try clear c3
        try clear p3
        try clear q3
        try clear hx3
        try clear c4
        try clear p6
        try clear c7
        try clear c8
        try clear c10
        try clear c12
        try clear c12b0
        try clear c12b1
        try clear c13
        try clear c14
        try clear c14b0
        try clear c14b1
        try clear c17
        try clear c17b0
        try clear c17b1
        try clear c20
        try clear c20b0
        try clear c20b1
        try clear c21
        try clear c21b0
        try clear c21b1
        try clear c27
        try clear c31
        try clear c31b0
        try clear c31b1
        try clear c33
        try clear c33b0
        try clear c34
        try clear c34b0
        try clear p35
        try clear q35
        try clear hx35
        try clear hcz10_0 hcz10_1 hcz10_2 hcz10_3 hcz10_4 hcz10_5
        try clear hcz28_0 hcz28_1 hcz28_2 hcz28_3 hcz28_4 hcz28_5
        try clear hcz8_0 hcz8_1 hcz8_2 hcz8_3 hcz8_4 hcz8_5
        try clear hfz10_0 hfz10_1 hfz10_2 hfz10_3 hfz10_4 hfz10_5
        try clear hfz28_0 hfz28_1 hfz28_2 hfz28_3 hfz28_4 hfz28_5
        try clear hfz8_0 hfz8_1 hfz8_2 hfz8_3 hfz8_4 hfz8_5
        try clear p2
        try clear p35
        try clear q35
        obtain ⟨kq, x60_23, rfl, HA, HJ23, HO_565004, HO_565005, BK545, BK564, HB⟩ := hcut
        cases kq with
        | zero => exact absurd HA.out (by simp [garmentlaw34_InterchangePrefix.j1])
        | succ kj23 =>
         have H := HA.out; clear HA; simp only [garmentlaw34_InterchangePrefix.j1] at H
         by_cases c36 : x60_23 = true
         ·subst c36
          have H1 : (if t562 = 2 then (if t563 = (wrap64 (t565 + 1)) then ((garmentlaw34_awake.f kj23).bind fun t566 => (some t566)) else (some false)) else (some false)) = some r := by rw [if_pos rfl] at H; exact H
          clear H; have H := H1; clear H1
          by_cases c37 : t562 = 2
          ·rw [if_pos c37] at H; have c37b0 : (t562 == 2) = true := beq_iff_eq.mpr c37; have c37b1 : (t562 != 2) = false := bne_eq_false_iff_eq.mpr c37; clear c37
           by_cases c38 : t563 = (wrap64 (t565 + 1))
           ·rw [if_pos c38] at H; have c38b0 : (t563 == (wrap64 (t565 + 1))) = true := beq_iff_eq.mpr c38; have c38b1 : (t563 != (wrap64 (t565 + 1))) = false := bne_eq_false_iff_eq.mpr c38; clear c38; replace H := Option.bind_eq_some_iff.mp H; obtain ⟨t566, A390, H⟩ := H; replace H : (some t566) = some r := H; have A39 := Aside0.mk A390; clear A390; obtain rfl := Option.some.inj H
            go_wp2_with (first | (go_at_call 9; (with_reducible refine (garmentlaw34_awake.calls kj23  t566 _ A39.out (by first | exact Aside0.mk (GL.below hG.out (be HB.out)) | exact hG)).mono ?_); rintro e w40 ⟨rfl, hb⟩; replace HO_565004 := Aside0.mk (Kd.R_below (ku HO_565004.out) hb); replace HO_565005 := Aside0.mk (Kd.R_below (ku HO_565005.out) hb); replace BK545 := Aside0.mk (blk_below (bu BK545.out) hb); replace BK564 := Aside0.mk (blk_below (bu BK564.out) hb); replace HB := Aside0.mk (below_step (be HB.out) hb); (try clear hb)))
            go_ret
            exact ⟨by first | rfl | (simp [errW_none, errW_some] <;> rfl) | (simp [*, errW_none, errW_some] <;> rfl), be HB.out⟩
           ·rw [if_neg c38] at H; have c38b0 : (t563 == (wrap64 (t565 + 1))) = false := beq_eq_false_iff_ne.mpr c38; have c38b1 : (t563 != (wrap64 (t565 + 1))) = true := bne_iff_ne.mpr c38; obtain rfl := Option.some.inj H
            go_wp2
            go_ret
            exact ⟨by first | rfl | (simp [errW_none, errW_some] <;> rfl) | (simp [*, errW_none, errW_some] <;> rfl), be HB.out⟩
          ·rw [if_neg c37] at H; have c37b0 : (t562 == 2) = false := beq_eq_false_iff_ne.mpr c37; have c37b1 : (t562 != 2) = true := bne_iff_ne.mpr c37; obtain rfl := Option.some.inj H
           go_wp2
           go_ret
           exact ⟨by first | rfl | (simp [errW_none, errW_some] <;> rfl) | (simp [*, errW_none, errW_some] <;> rfl), be HB.out⟩
         ·replace c36 := Bool.eq_false_iff.mpr c36; subst c36
          have H1 : (if t565 < 2 then (if t562 = 4 then (if t563 = (wrap64 (t565 + 1)) then ((garmentlaw34_awake.f kj23).bind fun t567 => (some t567)) else (some false)) else (some false)) else (if (wrap64 (t565 - 2)) > (l0_5.length : Int) then (some false) else (if 0 ≤ (wrap64 (t565 - 2)) then (if (wrap64 (t565 - 2)) ≤ (l0_5.length : Int) then (if t562 = 0 then (if t563 = 0 then ((garmentref34_Same.f kj23 t552 t553 t554 t555 t556 t559 a0_0 a0_1 a0_2 a0_3 l0_4 (l0_5.take ((wrap64 (t565 - 2)) : Int).toNat)).bind fun t572 => (if t572 = true then ((garmentlaw34_awake.f kj23).bind fun t573 => (some t573)) else (some false))) else (some false)) else (some false)) else (none)) else (none)))) = some r := by rw [if_neg (show ¬ (false = true) by decide)] at H; exact H
          clear H; have H := H1; clear H1
          by_cases c41 : t565 < 2
          ·rw [if_pos c41] at H; have c41b0 : decide (t565 < 2) = true := decide_eq_true c41; clear c41
           by_cases c42 : t562 = 4
           ·rw [if_pos c42] at H; have c42b0 : (t562 == 4) = true := beq_iff_eq.mpr c42; have c42b1 : (t562 != 4) = false := bne_eq_false_iff_eq.mpr c42; clear c42
            by_cases c43 : t563 = (wrap64 (t565 + 1))
            ·rw [if_pos c43] at H; have c43b0 : (t563 == (wrap64 (t565 + 1))) = true := beq_iff_eq.mpr c43; have c43b1 : (t563 != (wrap64 (t565 + 1))) = false := bne_eq_false_iff_eq.mpr c43; clear c43; replace H := Option.bind_eq_some_iff.mp H; obtain ⟨t567, A440, H⟩ := H; replace H : (some t567) = some r := H; have A44 := Aside0.mk A440; clear A440; obtain rfl := Option.some.inj H
             go_wp2_with (first | (go_at_call 9; (with_reducible refine (garmentlaw34_awake.calls kj23  t567 _ A44.out (by first | exact Aside0.mk (GL.below hG.out (be HB.out)) | exact hG)).mono ?_); rintro e w45 ⟨rfl, hb⟩; replace HO_565004 := Aside0.mk (Kd.R_below (ku HO_565004.out) hb); replace HO_565005 := Aside0.mk (Kd.R_below (ku HO_565005.out) hb); replace BK545 := Aside0.mk (blk_below (bu BK545.out) hb); replace BK564 := Aside0.mk (blk_below (bu BK564.out) hb); replace HB := Aside0.mk (below_step (be HB.out) hb); (try clear hb)))
             go_ret
             exact ⟨by first | rfl | (simp [errW_none, errW_some] <;> rfl) | (simp [*, errW_none, errW_some] <;> rfl), be HB.out⟩
            ·rw [if_neg c43] at H; have c43b0 : (t563 == (wrap64 (t565 + 1))) = false := beq_eq_false_iff_ne.mpr c43; have c43b1 : (t563 != (wrap64 (t565 + 1))) = true := bne_iff_ne.mpr c43; obtain rfl := Option.some.inj H
             go_wp2
             go_ret
             exact ⟨by first | rfl | (simp [errW_none, errW_some] <;> rfl) | (simp [*, errW_none, errW_some] <;> rfl), be HB.out⟩
           ·rw [if_neg c42] at H; have c42b0 : (t562 == 4) = false := beq_eq_false_iff_ne.mpr c42; have c42b1 : (t562 != 4) = true := bne_iff_ne.mpr c42; obtain rfl := Option.some.inj H
            go_wp2
            go_ret
            exact ⟨by first | rfl | (simp [errW_none, errW_some] <;> rfl) | (simp [*, errW_none, errW_some] <;> rfl), be HB.out⟩
          ·rw [if_neg c41] at H; have c41b0 : decide (t565 < 2) = false := decide_eq_false c41; clear c41
           by_cases c46 : (wrap64 (t565 - 2)) > (l0_5.length : Int)
           ·rw [if_pos c46] at H; have c46b0 : decide ((l0_5.length : Int) < (wrap64 (t565 - 2))) = true := decide_eq_true c46; clear c46; obtain rfl := Option.some.inj H; have hnb47 := NB545_564.out; have hnc47 := NB564_545.out; have hcz48_0 := bc BK545.out 0 (.int .i64 a0_0) rfl; have hcz48_1 := bc BK545.out 1 (.int .i64 a0_1) rfl; have hcz48_2 := bc BK545.out 2 (.int .i64 a0_2) rfl; have hcz48_3 := bc BK545.out 3 (.int .i64 a0_3) rfl; have hcz48_4 := bc BK545.out 4 (.slice A0_4 l0_4.length c0_4) rfl; have hcz48_5 := bc BK545.out 5 (.slice A0_5 l0_5.length c0_5) rfl; have hfz48_0 := blk_frozen BK545.out 0; have hfz48_1 := blk_frozen BK545.out 1; have hfz48_2 := blk_frozen BK545.out 2; have hfz48_3 := blk_frozen BK545.out 3; have hfz48_4 := blk_frozen BK545.out 4; have hfz48_5 := blk_frozen BK545.out 5
            go_wp2
            go_ret
            exact ⟨by first | rfl | (simp [errW_none, errW_some] <;> rfl) | (simp [*, errW_none, errW_some] <;> rfl), be HB.out⟩
           ·rw [if_neg c46] at H; have c46b0 : decide ((l0_5.length : Int) < (wrap64 (t565 - 2))) = false := decide_eq_false c46; clear c46; obtain ⟨ji49, hji49⟩ : ∃ j_ : Int, (wrap64 (t565 - 2)) = j_ := ⟨_, rfl⟩
            replace H : (if 0 ≤ (ji49) then (if (ji49) ≤ (l0_5.length : Int) then (if t562 = 0 then (if t563 = 0 then ((garmentref34_Same.f kj23 t552 t553 t554 t555 t556 t559 a0_0 a0_1 a0_2 a0_3 l0_4 (l0_5.take ((ji49) : Int).toNat)).bind fun t572 => (if t572 = true then ((garmentlaw34_awake.f kj23).bind fun t573 => (some t573)) else (some false))) else (some false)) else (some false)) else (none)) else (none)) = some r := by first | (rw [hji49] at H; exact H) | (simp only [hji49] at H ⊢; exact H)
            (try rw [hji49] at c46b0)
            have hji49w : (IntKind.i64.wrap (t565 - 2)) = ji49 := (i64_w _).trans hji49
            by_cases c50 : 0 ≤ (ji49)
            ·rw [if_pos c50] at H; have c50b0 := eq_true c50; have c50b1 : decide (0 ≤ (ji49)) = true := decide_eq_true c50; clear c50
             by_cases c51 : (ji49) ≤ (l0_5.length : Int)
             ·rw [if_pos c51] at H; have c51b0 := eq_true c51; have c51b1 : decide ((ji49) ≤ (l0_5.length : Int)) = true := decide_eq_true c51; clear c51; obtain ⟨y568, hy568⟩ : ∃ y_ : List (S46), y_ = (l0_5.take ((ji49) : Int).toNat) := ⟨_, rfl⟩
              replace H : (if t562 = 0 then (if t563 = 0 then ((garmentref34_Same.f kj23 t552 t553 t554 t555 t556 t559 a0_0 a0_1 a0_2 a0_3 l0_4 y568).bind fun t572 => (if t572 = true then ((garmentlaw34_awake.f kj23).bind fun t573 => (some t573)) else (some false))) else (some false)) else (some false)) = some r := by first | (rw [hy568]; with_reducible exact H) | (have H2_ := (Option.bind_some _ _).symm.trans H; rw [hy568]; with_reducible exact H2_) | (have H2_ := (Option.bind_some _ _).symm.trans H; with_reducible exact H2_) | with_reducible exact H | (rw [hy568]; exact H) | exact H
              have Ny568 := Aside0.mk hy568; clear hy568
              by_cases c52 : t562 = 0
              ·rw [if_pos c52] at H; have c52b0 : (t562 == 0) = true := beq_iff_eq.mpr c52; have c52b1 : (t562 != 0) = false := bne_eq_false_iff_eq.mpr c52; clear c52
               by_cases c53 : t563 = 0
               ·rw [if_pos c53] at H; have c53b0 : (t563 == 0) = true := beq_iff_eq.mpr c53; have c53b1 : (t563 != 0) = false := bne_eq_false_iff_eq.mpr c53; clear c53; replace H := Option.bind_eq_some_iff.mp H; obtain ⟨t572, A540, H⟩ := H; replace H : (if t572 = true then ((garmentlaw34_awake.f kj23).bind fun t573 => (some t573)) else (some false)) = some r := H; have A54 := Aside0.mk A540; clear A540
                by_cases c55 : t572 = true
                ·subst c55
                 have H1 : ((garmentlaw34_awake.f kj23).bind fun t573 => (some t573)) = some r := by rw [if_pos rfl] at H; exact H
                 clear H; have H := H1; clear H1; replace H := Option.bind_eq_some_iff.mp H; obtain ⟨t573, A560, H⟩ := H; replace H : (some t573) = some r := H; have A56 := Aside0.mk A560; clear A560; obtain rfl := Option.some.inj H; have hnb57 := NB545_564.out; have hnc57 := NB564_545.out; have hcz58_0 := bc BK545.out 0 (.int .i64 a0_0) rfl; have hcz58_1 := bc BK545.out 1 (.int .i64 a0_1) rfl; have hcz58_2 := bc BK545.out 2 (.int .i64 a0_2) rfl; have hcz58_3 := bc BK545.out 3 (.int .i64 a0_3) rfl; have hcz58_4 := bc BK545.out 4 (.slice A0_4 l0_4.length c0_4) rfl; have hcz58_5 := bc BK545.out 5 (.slice A0_5 l0_5.length c0_5) rfl; have hfz58_0 := blk_frozen BK545.out 0; have hfz58_1 := blk_frozen BK545.out 1; have hfz58_2 := blk_frozen BK545.out 2; have hfz58_3 := blk_frozen BK545.out 3; have hfz58_4 := blk_frozen BK545.out 4; have hfz58_5 := blk_frozen BK545.out 5; have q59 : ((ji49) : Int) ≤ ((l0_5.length : Int) : Int) := oda; obtain ⟨i059, hi059, _, hsz59, _⟩ := info_parts info46; have hroom59 : l0_5.length ≤ c0_5 := HC0_5.out; have hC59 : Kd.C k46 _ A0_5 l0_5.length l0_5 := HR0_5.out; have hcut59 := cut_to (P := Tryd.prog) 25 46 .i64 Tryd.underlying25 hi059 A0_5 l0_5.length c0_5 (ji49) (oda) q59 hroom59; have hr59 := Kd.C_take (m := ((ji49) : Int).toNat) hC59 (by omega); have hy59 : y568.length = ((ji49) : Int).toNat := (by rw [Ny568.out, List.length_take]; omega); rw [← Ny568.out] at hr59; rw [← hy59] at hcut59; have HR571 := Aside0.mk hr59; have HC571 := Aside0.mk (show y568.length ≤ c0_5 from by omega); clear hr59 hC59 hroom59 hi059 hsz59; have KY59 := Aside0.mk hy59; clear hy59; replace q59 := eq_true q59; have hcz60_0 := bc BK564.out 0 (.int .i64 t552) rfl; have hcz60_1 := bc BK564.out 1 (.int .i64 t553) rfl; have hcz60_2 := bc BK564.out 2 (.int .i64 t554) rfl; have hcz60_3 := bc BK564.out 3 (.int .i64 t555) rfl; have hcz60_4 := bc BK564.out 4 (.slice Ao29 t556.length co29) rfl; have hcz60_5 := bc BK564.out 5 (.slice Ao30 t559.length co30) rfl; have hfz60_0 := blk_frozen BK564.out 0; have hfz60_1 := blk_frozen BK564.out 1; have hfz60_2 := blk_frozen BK564.out 2; have hfz60_3 := blk_frozen BK564.out 3; have hfz60_4 := blk_frozen BK564.out 4; have hfz60_5 := blk_frozen BK564.out 5
                 go_wp2_with (first | (go_at_call 13; (with_reducible refine (garmentref34_Same.calls kj23 t552 t553 t554 t555 _ _ t556 _ _ t559 a0_0 a0_1 a0_2 a0_3 _ _ l0_4 _ _ y568 true _ ?side1 ?side2 ?side3 ?side4 ?side5 ?side6 ?side7 ?side8 A54.out).mono ?_); (case side1 => refine (Kd.R_reads' (e := 3) (base := w.heap.size) (ok := fun k_ => True) (n := t556.length) (c := co29) ?_).2.2; exact (kf HO_565004.out BK545.out)); (case side2 => exact (Kd.R_reads' HO_565004.out).2.1); (case side3 => refine (Kd.R_reads' (e := 46) (base := w.heap.size) (ok := fun k_ => True) (n := t559.length) (c := co30) ?_).2.2; exact (kf HO_565005.out BK545.out)); (case side4 => exact (Kd.R_reads' HO_565005.out).2.1); (case side5 => exact Kd.C_below HR0_4.out (be HB.out)); (case side6 => exact HC0_4.out); (case side7 => exact Kd.C_below HR571.out (be HB.out)); (case side8 => exact HC571.out); rintro e w61 ⟨rfl, hb⟩; replace HO_565004 := Aside0.mk (Kd.R_below (kf HO_565004.out BK545.out) hb); replace HO_565005 := Aside0.mk (Kd.R_below (kf HO_565005.out BK545.out) hb); replace BK545 := Aside0.mk (blk_below (g := gb545) (o := .cells #[.int .i64 a0_0, .int .i64 a0_1, .int .i64 a0_2, .int .i64 a0_3, .slice A0_4 l0_4.length c0_4, .slice A0_5 y568.length c0_5] 27 (0, 0)) (by (with_reducible repeat (first | refine blk_drewN ?_ _ | refine blk_drew ?_ | refine blk_alloc ?_ _)); refine blk_put (cs := #[.int .i64 a0_0, .int .i64 a0_1, .int .i64 a0_2, .int .i64 a0_3, .slice A0_4 l0_4.length c0_4, .slice A0_5 l0_5.length c0_5]) ?_ 5 _ rfl; (with_reducible repeat (first | refine blk_drewN ?_ _ | refine blk_drew ?_ | refine blk_alloc ?_ _)); exact BK545.out) hb); replace BK564 := Aside0.mk (blk_below (g := gb564) (o := .cells #[.int .i64 t552, .int .i64 t553, .int .i64 t554, .int .i64 t555, .slice Ao29 t556.length co29, .slice Ao30 t559.length co30] 27 (0, 0)) (by (with_reducible repeat (first | refine blk_drewN ?_ _ | refine blk_drew ?_ | refine blk_alloc ?_ _)); refine blk_far ?_ NB564_545.out _; (with_reducible repeat (first | refine blk_drewN ?_ _ | refine blk_drew ?_ | refine blk_alloc ?_ _)); exact BK564.out) hb); replace HB := Aside0.mk (below_step (be HB.out) hb); (try clear hb)) | (go_at_call 9; (with_reducible refine (garmentlaw34_awake.calls kj23  t573 _ A56.out (by first | exact Aside0.mk (GL.below hG.out (be HB.out)) | exact hG)).mono ?_); rintro e w62 ⟨rfl, hb⟩; replace HO_565004 := Aside0.mk (Kd.R_below (ku HO_565004.out) hb); replace HO_565005 := Aside0.mk (Kd.R_below (ku HO_565005.out) hb); replace BK545 := Aside0.mk (blk_below (bu BK545.out) hb); replace BK564 := Aside0.mk (blk_below (bu BK564.out) hb); replace HB := Aside0.mk (below_step (be HB.out) hb); (try clear hb)))
                 go_ret
                 exact ⟨by first | rfl | (simp [errW_none, errW_some] <;> rfl) | (simp only [← hji49]; first | rfl | (simp [errW_none, errW_some] <;> rfl)) | (simp [*, errW_none, errW_some] <;> rfl), be HB.out⟩
                ·replace c55 := Bool.eq_false_iff.mpr c55; subst c55
                 have H1 : (some false) = some r := by rw [if_neg (show ¬ (false = true) by decide)] at H; exact H
                 clear H; have H := H1; clear H1; obtain rfl := Option.some.inj H; have hnb63 := NB545_564.out; have hnc63 := NB564_545.out; have hcz64_0 := bc BK545.out 0 (.int .i64 a0_0) rfl; have hcz64_1 := bc BK545.out 1 (.int .i64 a0_1) rfl; have hcz64_2 := bc BK545.out 2 (.int .i64 a0_2) rfl; have hcz64_3 := bc BK545.out 3 (.int .i64 a0_3) rfl; have hcz64_4 := bc BK545.out 4 (.slice A0_4 l0_4.length c0_4) rfl; have hcz64_5 := bc BK545.out 5 (.slice A0_5 l0_5.length c0_5) rfl; have hfz64_0 := blk_frozen BK545.out 0; have hfz64_1 := blk_frozen BK545.out 1; have hfz64_2 := blk_frozen BK545.out 2; have hfz64_3 := blk_frozen BK545.out 3; have hfz64_4 := blk_frozen BK545.out 4; have hfz64_5 := blk_frozen BK545.out 5; have q65 : ((ji49) : Int) ≤ ((l0_5.length : Int) : Int) := oda; obtain ⟨i065, hi065, _, hsz65, _⟩ := info_parts info46; have hroom65 : l0_5.length ≤ c0_5 := HC0_5.out; have hC65 : Kd.C k46 _ A0_5 l0_5.length l0_5 := HR0_5.out; have hcut65 := cut_to (P := Tryd.prog) 25 46 .i64 Tryd.underlying25 hi065 A0_5 l0_5.length c0_5 (ji49) (oda) q65 hroom65; have hr65 := Kd.C_take (m := ((ji49) : Int).toNat) hC65 (by omega); have hy65 : y568.length = ((ji49) : Int).toNat := (by rw [Ny568.out, List.length_take]; omega); rw [← Ny568.out] at hr65; rw [← hy65] at hcut65; have HR571 := Aside0.mk hr65; have HC571 := Aside0.mk (show y568.length ≤ c0_5 from by omega); clear hr65 hC65 hroom65 hi065 hsz65; have KY65 := Aside0.mk hy65; clear hy65; replace q65 := eq_true q65; have hcz66_0 := bc BK564.out 0 (.int .i64 t552) rfl; have hcz66_1 := bc BK564.out 1 (.int .i64 t553) rfl; have hcz66_2 := bc BK564.out 2 (.int .i64 t554) rfl; have hcz66_3 := bc BK564.out 3 (.int .i64 t555) rfl; have hcz66_4 := bc BK564.out 4 (.slice Ao29 t556.length co29) rfl; have hcz66_5 := bc BK564.out 5 (.slice Ao30 t559.length co30) rfl; have hfz66_0 := blk_frozen BK564.out 0; have hfz66_1 := blk_frozen BK564.out 1; have hfz66_2 := blk_frozen BK564.out 2; have hfz66_3 := blk_frozen BK564.out 3; have hfz66_4 := blk_frozen BK564.out 4; have hfz66_5 := blk_frozen BK564.out 5
                 go_wp2_with (first | (go_at_call 13; (with_reducible refine (garmentref34_Same.calls kj23 t552 t553 t554 t555 _ _ t556 _ _ t559 a0_0 a0_1 a0_2 a0_3 _ _ l0_4 _ _ y568 false _ ?side1 ?side2 ?side3 ?side4 ?side5 ?side6 ?side7 ?side8 A54.out).mono ?_); (case side1 => refine (Kd.R_reads' (e := 3) (base := w.heap.size) (ok := fun k_ => True) (n := t556.length) (c := co29) ?_).2.2; exact (kf HO_565004.out BK545.out)); (case side2 => exact (Kd.R_reads' HO_565004.out).2.1); (case side3 => refine (Kd.R_reads' (e := 46) (base := w.heap.size) (ok := fun k_ => True) (n := t559.length) (c := co30) ?_).2.2; exact (kf HO_565005.out BK545.out)); (case side4 => exact (Kd.R_reads' HO_565005.out).2.1); (case side5 => exact Kd.C_below HR0_4.out (be HB.out)); (case side6 => exact HC0_4.out); (case side7 => exact Kd.C_below HR571.out (be HB.out)); (case side8 => exact HC571.out); rintro e w67 ⟨rfl, hb⟩; replace HO_565004 := Aside0.mk (Kd.R_below (kf HO_565004.out BK545.out) hb); replace HO_565005 := Aside0.mk (Kd.R_below (kf HO_565005.out BK545.out) hb); replace BK545 := Aside0.mk (blk_below (g := gb545) (o := .cells #[.int .i64 a0_0, .int .i64 a0_1, .int .i64 a0_2, .int .i64 a0_3, .slice A0_4 l0_4.length c0_4, .slice A0_5 y568.length c0_5] 27 (0, 0)) (by (with_reducible repeat (first | refine blk_drewN ?_ _ | refine blk_drew ?_ | refine blk_alloc ?_ _)); refine blk_put (cs := #[.int .i64 a0_0, .int .i64 a0_1, .int .i64 a0_2, .int .i64 a0_3, .slice A0_4 l0_4.length c0_4, .slice A0_5 l0_5.length c0_5]) ?_ 5 _ rfl; (with_reducible repeat (first | refine blk_drewN ?_ _ | refine blk_drew ?_ | refine blk_alloc ?_ _)); exact BK545.out) hb); replace BK564 := Aside0.mk (blk_below (g := gb564) (o := .cells #[.int .i64 t552, .int .i64 t553, .int .i64 t554, .int .i64 t555, .slice Ao29 t556.length co29, .slice Ao30 t559.length co30] 27 (0, 0)) (by (with_reducible repeat (first | refine blk_drewN ?_ _ | refine blk_drew ?_ | refine blk_alloc ?_ _)); refine blk_far ?_ NB564_545.out _; (with_reducible repeat (first | refine blk_drewN ?_ _ | refine blk_drew ?_ | refine blk_alloc ?_ _)); exact BK564.out) hb); replace HB := Aside0.mk (below_step (be HB.out) hb); (try clear hb)))
                 go_ret
                 exact ⟨by first | rfl | (simp [errW_none, errW_some] <;> rfl) | (simp only [← hji49]; first | rfl | (simp [errW_none, errW_some] <;> rfl)) | (simp [*, errW_none, errW_some] <;> rfl), be HB.out⟩
               ·rw [if_neg c53] at H; have c53b0 : (t563 == 0) = false := beq_eq_false_iff_ne.mpr c53; have c53b1 : (t563 != 0) = true := bne_iff_ne.mpr c53; obtain rfl := Option.some.inj H; have hnb68 := NB545_564.out; have hnc68 := NB564_545.out; have hcz69_0 := bc BK545.out 0 (.int .i64 a0_0) rfl; have hcz69_1 := bc BK545.out 1 (.int .i64 a0_1) rfl; have hcz69_2 := bc BK545.out 2 (.int .i64 a0_2) rfl; have hcz69_3 := bc BK545.out 3 (.int .i64 a0_3) rfl; have hcz69_4 := bc BK545.out 4 (.slice A0_4 l0_4.length c0_4) rfl; have hcz69_5 := bc BK545.out 5 (.slice A0_5 l0_5.length c0_5) rfl; have hfz69_0 := blk_frozen BK545.out 0; have hfz69_1 := blk_frozen BK545.out 1; have hfz69_2 := blk_frozen BK545.out 2; have hfz69_3 := blk_frozen BK545.out 3; have hfz69_4 := blk_frozen BK545.out 4; have hfz69_5 := blk_frozen BK545.out 5; have q70 : ((ji49) : Int) ≤ ((l0_5.length : Int) : Int) := oda; obtain ⟨i070, hi070, _, hsz70, _⟩ := info_parts info46; have hroom70 : l0_5.length ≤ c0_5 := HC0_5.out; have hC70 : Kd.C k46 _ A0_5 l0_5.length l0_5 := HR0_5.out; have hcut70 := cut_to (P := Tryd.prog) 25 46 .i64 Tryd.underlying25 hi070 A0_5 l0_5.length c0_5 (ji49) (oda) q70 hroom70; have hr70 := Kd.C_take (m := ((ji49) : Int).toNat) hC70 (by omega); have hy70 : y568.length = ((ji49) : Int).toNat := (by rw [Ny568.out, List.length_take]; omega); rw [← Ny568.out] at hr70; rw [← hy70] at hcut70; have HR571 := Aside0.mk hr70; have HC571 := Aside0.mk (show y568.length ≤ c0_5 from by omega); clear hr70 hC70 hroom70 hi070 hsz70; have KY70 := Aside0.mk hy70; clear hy70; replace q70 := eq_true q70
                go_wp2
                go_ret
                exact ⟨by first | rfl | (simp [errW_none, errW_some] <;> rfl) | (simp only [← hji49]; first | rfl | (simp [errW_none, errW_some] <;> rfl)) | (simp [*, errW_none, errW_some] <;> rfl), be HB.out⟩
              ·rw [if_neg c52] at H; have c52b0 : (t562 == 0) = false := beq_eq_false_iff_ne.mpr c52; have c52b1 : (t562 != 0) = true := bne_iff_ne.mpr c52; obtain rfl := Option.some.inj H; have hnb71 := NB545_564.out; have hnc71 := NB564_545.out; have hcz72_0 := bc BK545.out 0 (.int .i64 a0_0) rfl; have hcz72_1 := bc BK545.out 1 (.int .i64 a0_1) rfl; have hcz72_2 := bc BK545.out 2 (.int .i64 a0_2) rfl; have hcz72_3 := bc BK545.out 3 (.int .i64 a0_3) rfl; have hcz72_4 := bc BK545.out 4 (.slice A0_4 l0_4.length c0_4) rfl; have hcz72_5 := bc BK545.out 5 (.slice A0_5 l0_5.length c0_5) rfl; have hfz72_0 := blk_frozen BK545.out 0; have hfz72_1 := blk_frozen BK545.out 1; have hfz72_2 := blk_frozen BK545.out 2; have hfz72_3 := blk_frozen BK545.out 3; have hfz72_4 := blk_frozen BK545.out 4; have hfz72_5 := blk_frozen BK545.out 5; have q73 : ((ji49) : Int) ≤ ((l0_5.length : Int) : Int) := oda; obtain ⟨i073, hi073, _, hsz73, _⟩ := info_parts info46; have hroom73 : l0_5.length ≤ c0_5 := HC0_5.out; have hC73 : Kd.C k46 _ A0_5 l0_5.length l0_5 := HR0_5.out; have hcut73 := cut_to (P := Tryd.prog) 25 46 .i64 Tryd.underlying25 hi073 A0_5 l0_5.length c0_5 (ji49) (oda) q73 hroom73; have hr73 := Kd.C_take (m := ((ji49) : Int).toNat) hC73 (by omega); have hy73 : y568.length = ((ji49) : Int).toNat := (by rw [Ny568.out, List.length_take]; omega); rw [← Ny568.out] at hr73; rw [← hy73] at hcut73; have HR571 := Aside0.mk hr73; have HC571 := Aside0.mk (show y568.length ≤ c0_5 from by omega); clear hr73 hC73 hroom73 hi073 hsz73; have KY73 := Aside0.mk hy73; clear hy73; replace q73 := eq_true q73
               go_wp2
               go_ret
               exact ⟨by first | rfl | (simp [errW_none, errW_some] <;> rfl) | (simp only [← hji49]; first | rfl | (simp [errW_none, errW_some] <;> rfl)) | (simp [*, errW_none, errW_some] <;> rfl), be HB.out⟩
             ·rw [if_neg c51] at H; exact absurd H (by simp)
            ·rw [if_neg c50] at H; exact absurd H (by simp)
      ·rw [if_neg c21] at H; exact absurd H (by simp)
     ·rw [if_neg c20] at H; exact absurd H (by simp)
 ·replace c4 := Bool.eq_false_iff.mpr c4; subst c4
  have H1 : ((garmentlaw34_awake.f k).bind fun t547 => (some t547)) = some r := by rw [if_neg (show ¬ (false = true) by decide)] at H; exact H
  clear H; have H := H1; clear H1; replace H := Option.bind_eq_some_iff.mp H; obtain ⟨t547, A740, H⟩ := H; replace H : (some t547) = some r := H; have A74 := Aside0.mk A740; clear A740; obtain rfl := Option.some.inj H
  go_enter Tryd.func7, Tryd.ntmps7
  go_wp2_with (first | ((with_reducible refine gate_dst (N := 2) rfl ?_); (try (refine gate_guard (by rfl) ?_; dsimp only)); refine box_event ?hg (N := 2) ?hd (cs := #[.int .i64 a0_0, .int .i64 a0_1, .int .i64 a0_2, .int .i64 a0_3, .slice A0_4 l0_4.length c0_4, .slice A0_5 l0_5.length c0_5]) (t := 27) ?hr ?_; (case hd => rfl); (case hg => rfl); (case hr => first | (go_simp; done) | (go_simp; rfl)); intro gb545 hg w75 hbox hb; have BK545 := Aside0.mk (hbox); have GW545 := Aside0.mk ((by rw [hg]; exact (below_size (be HB.out)) : w.heap.size ≤ gb545)); have GE545 := Aside0.mk ((by rw [hg]; exact (below_size (be HB.out)) : w.heap.size ≤ gb545)); replace HB := Aside0.mk (below_step (be HB.out) hb); clear hb hbox hg; have hcz76_0 := bc BK545.out 0 (.int .i64 a0_0) rfl; have hcz76_1 := bc BK545.out 1 (.int .i64 a0_1) rfl; have hcz76_2 := bc BK545.out 2 (.int .i64 a0_2) rfl; have hcz76_3 := bc BK545.out 3 (.int .i64 a0_3) rfl; have hcz76_4 := bc BK545.out 4 (.slice A0_4 l0_4.length c0_4) rfl; have hcz76_5 := bc BK545.out 5 (.slice A0_5 l0_5.length c0_5) rfl; have hfz76_0 := blk_frozen BK545.out 0; have hfz76_1 := blk_frozen BK545.out 1; have hfz76_2 := blk_frozen BK545.out 2; have hfz76_3 := blk_frozen BK545.out 3; have hfz76_4 := blk_frozen BK545.out 4; have hfz76_5 := blk_frozen BK545.out 5) | ((with_reducible refine gate_callee (f := 8) rfl ?_); refine goesA (some 13) rfl rfl Tryd.func8 (by kernel_rfl) rfl #[.agg #[.int .i64 a0_0, .int .i64 a0_1, .int .i64 a0_2, .int .i64 a0_3, .slice A0_4 l0_4.length c0_4, .slice A0_5 l0_5.length c0_5]] rfl ?_; (with_reducible refine (garmentlaw34_few.calls a0_0 a0_1 a0_2 a0_3 _ _ l0_4 _ _ l0_5 false _ ?side1 ?side2 ?side3 ?side4 A3.out).mono ?_); (case side1 => exact cu (Kd.C_below HR0_4.out HB.out)); (case side2 => exact HC0_4.out); (case side3 => exact cu (Kd.C_below HR0_5.out HB.out)); (case side4 => exact HC0_5.out); rintro e w77 ⟨rfl, hb⟩; refine ⟨_, rfl, ?_⟩; replace BK545 := Aside0.mk (blk_below (bu BK545.out) hb); replace HB := Aside0.mk (below_step (be HB.out) hb); (try clear hb)) | ((with_reducible refine gate_callee (f := 9) rfl ?_); refine goesA (some 15) rfl rfl Tryd.func9 (by kernel_rfl) rfl #[] rfl ?_; (with_reducible refine (garmentlaw34_awake.calls k  t547 _ A74.out (by first | exact Aside0.mk (GL.below hG.out (be HB.out)) | exact hG)).mono ?_); rintro e w78 ⟨rfl, hb⟩; refine ⟨_, rfl, ?_⟩; replace BK545 := Aside0.mk (blk_below (bu BK545.out) hb); replace HB := Aside0.mk (below_step (be HB.out) hb); (try clear hb)))
  go_ret
  exact ⟨by first | rfl | (simp [errW_none, errW_some] <;> rfl) | (simp [*, errW_none, errW_some] <;> rfl), be HB.out⟩

end Go.Proofs.YtghnjnegcdbgnaaDoor.P
